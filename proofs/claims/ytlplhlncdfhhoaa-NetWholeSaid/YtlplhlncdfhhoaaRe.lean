/- row.Decode: what it takes. -/
import Derived.Test.YtlplhlncdfhhoaaRd
set_option linter.unusedVariables false
set_option linter.unusedSimpArgs false
namespace Go.Proofs.Ytlplhlncdfhhoaa
open Go.RowKit
theorem q_bv {P : Program} {n : Nat} {f : Nat → Value} {o : Oper} {w : World} {b c : Bool} (h : b = c) (hr : Run P n f o w (.bool b)) : Run P n f o w (.bool c) := h ▸ hr
theorem long_or (b : List Nat) : (∃ z r, -9223372036854775808 ≤ z ∧ z ≤ 9223372036854775807 ∧ b = short z ++ r) ∨ NoShort b := by
  rcases Classical.em (∃ z r, -9223372036854775808 ≤ z ∧ z ≤ 9223372036854775807 ∧ b = short z ++ r) with h | h
  · exact .inl h
  · exact .inr fun n r h1 h2 e => h ⟨n, r, h1, h2, e⟩
attribute [local irreducible] Oper.wp Sem.run Code.wp wpList wpAnyO callFunc execOp Calls
attribute [local irreducible] toU short rencs renc rowE encRow rightB zig unzig decRw

set_option maxRecDepth 100000 in
theorem take_yes (bo bb : Nat) (r : List Nat) (hr : Bytes r) (hm : r.length ≤ 2000000) (k : Nat) (hk : k ≤ r.length) (ra : Option Addr) (rc : Nat) (hrc : r.length ≤ rc) (w : World) (g : Gh) (hg : Rog [.blk bo (.cells #[.bool true] 4), .blk bb (.cells #[.slice ra r.length rc] 61)] w g) (hG : SlG g ra (bv r)) (hS : St w (owns [.blk bo (.cells #[.bool true] 4), .blk bb (.cells #[.slice ra r.length rc] 61)]) [.blk bo (.cells #[.bool true] 4), .blk bb (.cells #[.slice ra r.length rc] 61)] w) : Calls Try.prog 51 #[.int .i64 ((k : Nat) : Int), .pointer (some ⟨bo, 0, none⟩), .pointer (some ⟨bb, 0, none⟩)] w (Post w [.blk bo (.cells #[.bool true] 4), .blk bb (.cells #[.slice ra r.length rc] 61)] fun v G => ∃ ra' rc', v = .slice ra k rc ∧ G = [.blk bo (.cells #[.bool true] 4), .blk bb (.cells #[.slice ra' (r.drop k).length rc'] 61)] ∧ SlG g ra' (bv (r.drop k)) ∧ (r.drop k).length ≤ rc') := by
  refine c_enter Try.func51 rfl rfl rfl ?_
  refine wp_seq_k (fun K1 hK1 => ?_)
  refine wp_region_lit ?_
  refine l_q rfl rfl (q_assignS rfl) ?_
  refine l_nil ?_
  refine hK1 _ _ ?_
  refine wp_seq_k (fun K2 hK2 => ?_)
  refine wp_seq_k (fun K3 hK3 => ?_)
  refine wp_region_lit ?_
  refine l_q rfl rfl (q_load1 rfl (by kernel_rfl) (hS.cell (i := 0) rfl rfl)) ?_
  refine l_q rfl rfl (q_moveB rfl) ?_
  refine l_on rfl rfl rfl ?_
  refine l_q rfl rfl (q_moveI rfl) ?_
  refine l_on rfl rfl rfl ?_
  refine l_q rfl rfl (q_bv (c := true) (decide_eq_true (by omega)) (q_geq rfl rfl)) ?_
  refine l_q rfl rfl (q_pickT rfl rfl rfl) ?_
  refine l_q rfl rfl (q_moveB rfl) ?_
  refine l_on rfl rfl rfl ?_
  refine l_q rfl rfl (q_moveI rfl) ?_
  refine l_on rfl rfl rfl ?_
  refine l_q rfl rfl (q_load1 rfl (by kernel_rfl) (hS.cell (i := 1) rfl rfl)) ?_
  refine l_on rfl rfl rfl ?_
  refine l_q rfl rfl (q_lenSl (e := 5) rfl (by kernel_rfl)) ?_
  refine l_on rfl rfl rfl ?_
  refine l_q rfl rfl (q_bv (c := true) (decide_eq_true (by omega)) (q_leq rfl rfl)) ?_
  refine l_q rfl rfl (q_pickT rfl rfl rfl) ?_
  refine l_e rfl (fun K hK => ?_)
  refine e_store1 hS rfl rfl (by kernel_rfl) (by first | rfl | assumption) (i := 0) rfl rfl (fun w4 (hS4 : St _ _ [.blk bo (.cells #[.bool true] 4), .blk bb (.cells #[.slice ra r.length rc] 61)] _) => ?_)
  clear hS
  refine hK _ _ ?_; clear hK K
  refine l_nil ?_
  refine hK3 _ _ ?_
  refine wp_seq_k (fun K5 hK5 => ?_)
  refine wp_region_lit ?_
  refine l_q rfl rfl (q_load1 rfl (by kernel_rfl) (hS4.cell (i := 0) rfl rfl)) ?_
  refine l_q rfl rfl (q_not rfl) ?_
  refine l_nil ?_
  refine hK5 _ _ ?_
  refine c_condF rfl rfl ?_
  refine wp_skip ?_
  refine hK2 _ _ ?_
  refine wp_seq_k (fun K7 hK7 => ?_)
  refine wp_region_lit ?_
  refine l_q rfl rfl (q_load1 rfl (by kernel_rfl) (hS4.cell (i := 1) rfl rfl)) ?_
  refine l_q rfl rfl (q_moveI rfl) ?_
  refine l_q rfl rfl (q_sliceX (e := 5) (size := 1) (l := 0) (h := k) (m := rc) (ad' := ra) (len' := k) (cap' := rc) rfl (by kernel_rfl) (by kernel_rfl) rfl ⟨_, int_nat (by first | rfl | omega) rfl⟩ rfl (by omega) (by first | omega | (simp only [List.length_append, List.length_map, List.length_cons, List.length_nil, List.length_take, List.length_drop, List.length_set] <;> omega)) (by first | omega | (simp only [List.length_append, List.length_map, List.length_cons, List.length_nil, List.length_take, List.length_drop, List.length_set] <;> omega)) rfl subS_zero (Nat.sub_zero _) (Nat.sub_zero _)) ?_
  refine l_q rfl rfl (q_assignS rfl) ?_
  refine l_nil ?_
  refine hK7 _ _ ?_
  refine wp_seq_k (fun K8 hK8 => ?_)
  refine wp_region_lit ?_
  refine l_q rfl rfl (q_load1 rfl (by kernel_rfl) (hS4.cell (i := 1) rfl rfl)) ?_
  refine l_q rfl rfl (q_moveI rfl) ?_
  refine l_q rfl rfl (q_sliceX (e := 5) (size := 1) (l := k) (h := r.length) (m := rc) (ad' := (subS ra k 1 rc)) (len' := (r.length - k)) (cap' := (rc - k)) rfl (by kernel_rfl) (by kernel_rfl) rfl rfl ⟨_, int_nat (by first | rfl | omega) rfl⟩ (by omega) (by first | omega | (simp only [List.length_append, List.length_map, List.length_cons, List.length_nil, List.length_take, List.length_drop, List.length_set] <;> omega)) (by first | omega | (simp only [List.length_append, List.length_map, List.length_cons, List.length_nil, List.length_take, List.length_drop, List.length_set] <;> omega)) rfl rfl rfl rfl) ?_
  refine l_e rfl (fun K hK => ?_)
  refine e_store1 hS4 rfl rfl (by kernel_rfl) (by first | rfl | assumption) (i := 1) rfl rfl (fun w9 (hS9 : St _ _ [.blk bo (.cells #[.bool true] 4), .blk bb (.cells #[.slice (subS ra k 1 rc) (r.length - k) (rc - k)] 61)] _) => ?_)
  clear hS4
  refine hK _ _ ?_; clear hK K
  refine l_nil ?_
  refine hK8 _ _ ?_
  refine wp_seq_k (fun K10 hK10 => ?_)
  refine wp_region_lit ?_
  refine l_q rfl rfl (q_moveS rfl) ?_
  refine l_q rfl rfl (q_assignS rfl) ?_
  refine l_nil ?_
  refine hK10 _ _ ?_
  refine wp_ret ?_
  refine c_ret1 rfl rfl ?_
  exact ⟨_, _, rfl, ⟨_, _, rfl, (by rw [List.length_drop]), (bv_subD (by first | omega | (simp only [List.length_append, List.length_map, List.length_cons, List.length_nil, List.length_take, List.length_drop, List.length_set] <;> omega)) (SlG.sub (l := k) (size := 1) (m := rc) (n := r.length - k) hG (by first | omega | (simp only [List.length_append, List.length_map, List.length_cons, List.length_nil, List.length_take, List.length_drop, List.length_set] <;> omega)) (by decide))), (by rw [List.length_drop]; omega)⟩, hS9⟩

set_option maxRecDepth 100000 in
theorem take_no (bo bb : Nat) (r : List Nat) (hr : Bytes r) (hm : r.length ≤ 2000000) (ok : Bool) (z : Int) (hz : ok = false ∨ (z < 0 ∨ (r.length : Int) < z)) (ra : Option Addr) (rc : Nat) (hrc : r.length ≤ rc) (w : World) (g : Gh) (hg : Rog [.blk bo (.cells #[.bool ok] 4), .blk bb (.cells #[.slice ra r.length rc] 61)] w g) (hG : SlG g ra (bv r)) (hS : St w (owns [.blk bo (.cells #[.bool ok] 4), .blk bb (.cells #[.slice ra r.length rc] 61)]) [.blk bo (.cells #[.bool ok] 4), .blk bb (.cells #[.slice ra r.length rc] 61)] w) : Calls Try.prog 51 #[.int .i64 z, .pointer (some ⟨bo, 0, none⟩), .pointer (some ⟨bb, 0, none⟩)] w (Post w [.blk bo (.cells #[.bool ok] 4), .blk bb (.cells #[.slice ra r.length rc] 61)] fun v G => ∃ nb, v = .slice (some ⟨nb, 0, none⟩) 1 1 ∧ G = [.blk bo (.cells #[.bool false] 4), .blk bb (.cells #[.slice ra r.length rc] 61), .ow 5 1 (some ⟨nb, 0, none⟩) 1 1 (bv [0])]) := by
  refine c_enter Try.func51 rfl rfl rfl ?_
  refine wp_seq_k (fun K1 hK1 => ?_)
  refine wp_region_lit ?_
  refine l_q rfl rfl (q_assignS rfl) ?_
  refine l_nil ?_
  refine hK1 _ _ ?_
  refine wp_seq_k (fun K2 hK2 => ?_)
  refine wp_seq_k (fun K3 hK3 => ?_)
  refine wp_region_lit ?_
  refine l_q rfl rfl (q_load1 rfl (by kernel_rfl) (hS.cell (i := 0) rfl rfl)) ?_
  refine l_q rfl rfl (q_moveB rfl) ?_
  refine g_splitL (t := 7) rfl (fun hg4 => ?_) (fun hg4 => ?_)
  ·
    have hg4b := hg4
    try simp only [decide_eq_true_eq, decide_eq_false_iff_not, Bool.not_eq_true', Bool.not_eq_false', Bool.and_eq_true, Bool.or_eq_true, Int.not_lt, Int.not_le, ne_eq, Decidable.not_not] at hg4
    have hz' := hz.resolve_left (by rw [hg4]; simp)
    refine l_on rfl rfl hg4b ?_
    refine l_q rfl rfl (q_moveI rfl) ?_
    refine l_on rfl rfl hg4b ?_
    refine l_q rfl rfl (q_geq rfl rfl) ?_
    refine l_q rfl rfl (q_pickT rfl hg4b rfl) ?_
    refine l_q rfl rfl (q_moveB rfl) ?_
    refine g_splitL (t := 11) rfl (fun hg5 => ?_) (fun hg5 => ?_)
    ·
      have hg5b := hg5
      try simp only [decide_eq_true_eq, decide_eq_false_iff_not, Bool.not_eq_true', Bool.not_eq_false', Bool.and_eq_true, Bool.or_eq_true, Int.not_lt, Int.not_le, ne_eq, Decidable.not_not] at hg5
      refine l_on rfl rfl hg5b ?_
      refine l_q rfl rfl (q_moveI rfl) ?_
      refine l_on rfl rfl hg5b ?_
      refine l_q rfl rfl (q_load1 rfl (by kernel_rfl) (hS.cell (i := 1) rfl rfl)) ?_
      refine l_on rfl rfl hg5b ?_
      refine l_q rfl rfl (q_lenSl (e := 5) rfl (by kernel_rfl)) ?_
      refine l_on rfl rfl hg5b ?_
      refine l_q rfl rfl (q_bv (c := false) (decide_eq_false (by omega)) (q_leq rfl rfl)) ?_
      refine l_q rfl rfl (q_pickT rfl hg5b rfl) ?_
      refine l_e rfl (fun K hK => ?_)
      refine e_store1 hS rfl rfl (by kernel_rfl) (by first | rfl | assumption) (i := 0) rfl rfl (fun w6 (hS6 : St _ _ [.blk bo (.cells #[.bool false] 4), .blk bb (.cells #[.slice ra r.length rc] 61)] _) => ?_)
      clear hS
      refine hK _ _ ?_; clear hK K
      refine l_nil ?_
      refine hK3 _ _ ?_
      refine wp_seq_k (fun K7 hK7 => ?_)
      refine wp_region_lit ?_
      refine l_q rfl rfl (q_load1 rfl (by kernel_rfl) (hS6.cell (i := 0) rfl rfl)) ?_
      refine l_q rfl rfl (q_not rfl) ?_
      refine l_nil ?_
      refine hK7 _ _ ?_
      refine c_condT rfl rfl ?_
      refine wp_seq_k (fun K9 hK9 => ?_)
      refine wp_region_lit ?_
      refine l_e rfl (fun K hK => ?_)
      refine e_buildSlice1 (e := 5) (zv := .int .u8 0) (xs := [_]) hS6 (by kernel_rfl) (by kernel_rfl) (by kernel_rfl) rfl rfl rfl rfl (allone (by repeat' (first | exact trivial | refine ⟨by first | rfl | assumption, ?_⟩))) rfl (fun b10 w10 (hS10 : St _ _ [.blk b10 (.cells #[.int .u8 (0 : Int)] 5), .blk bo (.cells #[.bool false] 4), .blk bb (.cells #[.slice ra r.length rc] 61)] _) => ?_)
      clear hS6
      have hB10 : Bytes [0] := by intro q hq; simp only [List.mem_cons, List.not_mem_nil, or_false] at hq; omega
      have hS10o : St _ _ [.ow 5 1 (some ⟨b10, 0, none⟩) 1 1 (bv [0]), .blk bo (.cells #[.bool false] 4), .blk bb (.cells #[.slice ra r.length rc] 61)] _ := hS10.blkOw' (i := 0) (m := 1) (size := 1) (xs := bv [0]) rfl rfl rfl (by decide); clear hS10
      refine hK _ _ ?_; clear hK K
      refine l_q rfl rfl (q_assignS rfl) ?_
      refine l_nil ?_
      refine hK9 _ _ ?_
      refine wp_ret ?_
      refine c_ret1 rfl rfl ?_
      have hS11 := hS10o.fr2; clear hS10o
      have hS12 := hS11.fr2; clear hS11
      exact ⟨_, _, rfl, ⟨_, rfl, rfl⟩, hS12⟩
    ·
      have hg5b := hg5
      try simp only [decide_eq_true_eq, decide_eq_false_iff_not, Bool.not_eq_true', Bool.not_eq_false', Bool.and_eq_true, Bool.or_eq_true, Int.not_lt, Int.not_le, ne_eq, Decidable.not_not] at hg5
      refine l_off rfl rfl rfl hg5b ?_
      refine l_off rfl rfl rfl hg5b ?_
      refine l_off rfl rfl rfl hg5b ?_
      refine l_off rfl rfl rfl hg5b ?_
      refine l_q rfl rfl (q_pickF rfl hg5b rfl) ?_
      refine l_e rfl (fun K hK => ?_)
      refine e_store1 hS rfl rfl (by kernel_rfl) (by first | rfl | assumption) (i := 0) rfl rfl (fun w13 (hS13 : St _ _ [.blk bo (.cells #[.bool false] 4), .blk bb (.cells #[.slice ra r.length rc] 61)] _) => ?_)
      clear hS
      refine hK _ _ ?_; clear hK K
      refine l_nil ?_
      refine hK3 _ _ ?_
      refine wp_seq_k (fun K14 hK14 => ?_)
      refine wp_region_lit ?_
      refine l_q rfl rfl (q_load1 rfl (by kernel_rfl) (hS13.cell (i := 0) rfl rfl)) ?_
      refine l_q rfl rfl (q_not rfl) ?_
      refine l_nil ?_
      refine hK14 _ _ ?_
      refine c_condT rfl rfl ?_
      refine wp_seq_k (fun K16 hK16 => ?_)
      refine wp_region_lit ?_
      refine l_e rfl (fun K hK => ?_)
      refine e_buildSlice1 (e := 5) (zv := .int .u8 0) (xs := [_]) hS13 (by kernel_rfl) (by kernel_rfl) (by kernel_rfl) rfl rfl rfl rfl (allone (by repeat' (first | exact trivial | refine ⟨by first | rfl | assumption, ?_⟩))) rfl (fun b17 w17 (hS17 : St _ _ [.blk b17 (.cells #[.int .u8 (0 : Int)] 5), .blk bo (.cells #[.bool false] 4), .blk bb (.cells #[.slice ra r.length rc] 61)] _) => ?_)
      clear hS13
      have hB17 : Bytes [0] := by intro q hq; simp only [List.mem_cons, List.not_mem_nil, or_false] at hq; omega
      have hS17o : St _ _ [.ow 5 1 (some ⟨b17, 0, none⟩) 1 1 (bv [0]), .blk bo (.cells #[.bool false] 4), .blk bb (.cells #[.slice ra r.length rc] 61)] _ := hS17.blkOw' (i := 0) (m := 1) (size := 1) (xs := bv [0]) rfl rfl rfl (by decide); clear hS17
      refine hK _ _ ?_; clear hK K
      refine l_q rfl rfl (q_assignS rfl) ?_
      refine l_nil ?_
      refine hK16 _ _ ?_
      refine wp_ret ?_
      refine c_ret1 rfl rfl ?_
      have hS18 := hS17o.fr2; clear hS17o
      have hS19 := hS18.fr2; clear hS18
      exact ⟨_, _, rfl, ⟨_, rfl, rfl⟩, hS19⟩
  ·
    have hg4b := hg4
    try simp only [decide_eq_true_eq, decide_eq_false_iff_not, Bool.not_eq_true', Bool.not_eq_false', Bool.and_eq_true, Bool.or_eq_true, Int.not_lt, Int.not_le, ne_eq, Decidable.not_not] at hg4
    refine l_off rfl rfl rfl hg4b ?_
    refine l_off rfl rfl rfl hg4b ?_
    refine l_q rfl rfl (q_pickF rfl hg4b rfl) ?_
    refine l_q rfl rfl (q_moveB rfl) ?_
    refine l_off rfl rfl rfl rfl ?_
    refine l_off rfl rfl rfl rfl ?_
    refine l_off rfl rfl rfl rfl ?_
    refine l_off rfl rfl rfl rfl ?_
    refine l_q rfl rfl (q_pickF rfl rfl rfl) ?_
    refine l_e rfl (fun K hK => ?_)
    refine e_store1 hS rfl rfl (by kernel_rfl) (by first | rfl | assumption) (i := 0) rfl rfl (fun w20 (hS20 : St _ _ [.blk bo (.cells #[.bool false] 4), .blk bb (.cells #[.slice ra r.length rc] 61)] _) => ?_)
    clear hS
    refine hK _ _ ?_; clear hK K
    refine l_nil ?_
    refine hK3 _ _ ?_
    refine wp_seq_k (fun K21 hK21 => ?_)
    refine wp_region_lit ?_
    refine l_q rfl rfl (q_load1 rfl (by kernel_rfl) (hS20.cell (i := 0) rfl rfl)) ?_
    refine l_q rfl rfl (q_not rfl) ?_
    refine l_nil ?_
    refine hK21 _ _ ?_
    refine c_condT rfl rfl ?_
    refine wp_seq_k (fun K23 hK23 => ?_)
    refine wp_region_lit ?_
    refine l_e rfl (fun K hK => ?_)
    refine e_buildSlice1 (e := 5) (zv := .int .u8 0) (xs := [_]) hS20 (by kernel_rfl) (by kernel_rfl) (by kernel_rfl) rfl rfl rfl rfl (allone (by repeat' (first | exact trivial | refine ⟨by first | rfl | assumption, ?_⟩))) rfl (fun b24 w24 (hS24 : St _ _ [.blk b24 (.cells #[.int .u8 (0 : Int)] 5), .blk bo (.cells #[.bool false] 4), .blk bb (.cells #[.slice ra r.length rc] 61)] _) => ?_)
    clear hS20
    have hB24 : Bytes [0] := by intro q hq; simp only [List.mem_cons, List.not_mem_nil, or_false] at hq; omega
    have hS24o : St _ _ [.ow 5 1 (some ⟨b24, 0, none⟩) 1 1 (bv [0]), .blk bo (.cells #[.bool false] 4), .blk bb (.cells #[.slice ra r.length rc] 61)] _ := hS24.blkOw' (i := 0) (m := 1) (size := 1) (xs := bv [0]) rfl rfl rfl (by decide); clear hS24
    refine hK _ _ ?_; clear hK K
    refine l_q rfl rfl (q_assignS rfl) ?_
    refine l_nil ?_
    refine hK23 _ _ ?_
    refine wp_ret ?_
    refine c_ret1 rfl rfl ?_
    have hS25 := hS24o.fr2; clear hS24o
    have hS26 := hS25.fr2; clear hS25
    exact ⟨_, _, rfl, ⟨_, rfl, rfl⟩, hS26⟩

end Go.Proofs.Ytlplhlncdfhhoaa
