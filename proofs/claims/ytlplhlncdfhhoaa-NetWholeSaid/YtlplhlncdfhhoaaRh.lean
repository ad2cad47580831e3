/- Letters: Right, Encode, Decode. -/
import Derived.Test.YtlplhlncdfhhoaaRg
set_option linter.unusedVariables false
set_option linter.unusedSimpArgs false
namespace Go.Proofs.Ytlplhlncdfhhoaa
open Go.RowKit
theorem nodeB {x a : Int} (h : decide (0 ≤ x ∧ x < 16) = true) (h2 : decide (x ≤ a) = false) : a < x ∧ 0 ≤ x ∧ x < 16 := by
  have := of_decide_eq_true h; have := of_decide_eq_false h2; omega
attribute [local irreducible] Oper.wp Sem.run Code.wp wpList wpAnyO callFunc execOp Calls
attribute [local irreducible] toU short rencs renc rowE encRow rightB zig unzig decRw rightL risB lastN bitsOf nodesTo encL encLE rowL

set_option maxRecDepth 100000 in
theorem node_ok (x : Int) (w : World) : Calls Try.prog 43 #[.int .i64 x] w (PostR w fun v => v = .bool (decide (0 ≤ x ∧ x < 16))) := by
 have hS := St.start w
 refine c_enter Try.func43 rfl rfl rfl ?_
 refine wp_seq_k (fun K1 hK1 => ?_)
 refine wp_region_lit ?_
 refine l_q rfl rfl (q_assignB rfl) ?_
 refine l_nil ?_
 refine hK1 _ _ ?_
 refine wp_seq_k (fun K2 hK2 => ?_)
 refine wp_region_lit ?_
 refine l_q rfl rfl (q_moveI rfl) ?_
 refine l_q rfl rfl (q_geq rfl rfl) ?_
 refine l_q rfl rfl (q_moveB rfl) ?_
 refine g_splitL (t := 5) rfl (fun hg3 => ?_) (fun hg3 => ?_)
 ·
  have hg3b := hg3
  try simp only [decide_eq_true_eq, decide_eq_false_iff_not, Bool.not_eq_true', Bool.not_eq_false', Bool.and_eq_true, Bool.or_eq_true, Int.not_lt, Int.not_le, ne_eq, Decidable.not_not] at hg3
  refine l_on rfl rfl hg3b ?_
  refine l_q rfl rfl (q_moveI rfl) ?_
  refine l_on rfl rfl hg3b ?_
  refine l_q rfl rfl (q_lss rfl rfl) ?_
  refine l_q rfl rfl (q_pickT rfl hg3b rfl) ?_
  refine l_q rfl rfl (q_assignB rfl) ?_
  refine l_nil ?_
  refine hK2 _ _ ?_
  refine wp_ret ?_
  refine c_ret1 rfl rfl ?_
  exact ⟨_, rfl, congrArg Value.bool (by first | (symm; exact decide_eq_true (by omega)) | (symm; exact decide_eq_false (by omega)) | exact decide_eq_decide.2 (by omega)), hS.drop⟩
 ·
  have hg3b := hg3
  try simp only [decide_eq_true_eq, decide_eq_false_iff_not, Bool.not_eq_true', Bool.not_eq_false', Bool.and_eq_true, Bool.or_eq_true, Int.not_lt, Int.not_le, ne_eq, Decidable.not_not] at hg3
  refine l_off rfl rfl rfl hg3b ?_
  refine l_off rfl rfl rfl hg3b ?_
  refine l_q rfl rfl (q_pickF rfl hg3b rfl) ?_
  refine l_q rfl rfl (q_assignB rfl) ?_
  refine l_nil ?_
  refine hK2 _ _ ?_
  refine wp_ret ?_
  refine c_ret1 rfl rfl ?_
  exact ⟨_, rfl, congrArg Value.bool (by first | (symm; exact decide_eq_true (by omega)) | (symm; exact decide_eq_false (by omega)) | exact decide_eq_decide.2 (by omega)), hS.drop⟩

set_option maxRecDepth 100000 in
theorem lclos_ok (x a : Int) (bl : Nat) (w : World) (hS : St w (owns [.blk bl (.cells #[.int .i64 a] 3)]) [.blk bl (.cells #[.int .i64 a] 3)] w) : Calls Try.prog 45 #[.int .i64 x, .pointer (some ⟨bl, 0, none⟩)] w (Post w [.blk bl (.cells #[.int .i64 a] 3)] fun v G => v = .bool (decide (¬(a < x ∧ 0 ≤ x ∧ x < 16))) ∧ G = [.blk bl (.cells #[.int .i64 x] 3)]) := by
 refine c_enter Try.func45 rfl rfl rfl ?_
 refine wp_seq_k (fun K1 hK1 => ?_)
 refine wp_region_lit ?_
 refine l_q rfl rfl (q_assignB rfl) ?_
 refine l_nil ?_
 refine hK1 _ _ ?_
 refine wp_seq_k (fun K2 hK2 => ?_)
 refine wp_region_lit ?_
 refine l_q rfl rfl (q_moveI rfl) ?_
 refine l_e rfl (fun K hK => ?_)
 refine e_call (by kernel_rfl) (node_ok x _) rfl (after_R hS (fun v3 w3 hv3 hS3 => ?_))
 clear hS
 obtain rfl := hv3
 refine hK _ _ ?_; clear hK K
 refine l_q rfl rfl (q_not rfl) ?_
 refine l_q rfl rfl (q_moveB rfl) ?_
 refine g_splitL (t := 8) rfl (fun hg4 => ?_) (fun hg4 => ?_)
 ·
  have hg4b := hg4
  try simp only [decide_eq_true_eq, decide_eq_false_iff_not, Bool.not_eq_true', Bool.not_eq_false', Bool.and_eq_true, Bool.or_eq_true, Int.not_lt, Int.not_le, ne_eq, Decidable.not_not] at hg4
  refine l_off rfl rfl rfl hg4b ?_
  refine l_off rfl rfl rfl hg4b ?_
  refine l_off rfl rfl rfl hg4b ?_
  refine l_q rfl rfl (q_pickT rfl hg4b rfl) ?_
  refine l_q rfl rfl (q_assignB rfl) ?_
  refine l_nil ?_
  refine hK2 _ _ ?_
  refine wp_seq_k (fun K5 hK5 => ?_)
  refine wp_region_lit ?_
  refine l_q rfl rfl (q_moveI rfl) ?_
  refine l_e rfl (fun K hK => ?_)
  refine e_store1 hS3 rfl rfl (by kernel_rfl) (by first | rfl | assumption) (i := 0) rfl rfl (fun w6 (hS6 : St _ _ [.blk bl (.cells #[.int .i64 x] 3)] _) => ?_)
  clear hS3
  refine hK _ _ ?_; clear hK K
  refine l_nil ?_
  refine hK5 _ _ ?_
  refine wp_seq_k (fun K7 hK7 => ?_)
  refine wp_region_lit ?_
  refine l_q rfl rfl (q_moveB rfl) ?_
  refine l_q rfl rfl (q_assignB rfl) ?_
  refine l_nil ?_
  refine hK7 _ _ ?_
  refine wp_ret ?_
  refine c_ret1 rfl rfl ?_
  exact ⟨_, _, rfl, ⟨congrArg Value.bool (by first | (symm; exact decide_eq_true (by simp only [decide_eq_true_eq, decide_eq_false_iff_not, Bool.not_eq_true', Bool.not_eq_false'] at *; omega)) | (symm; exact decide_eq_false (by simp only [decide_eq_true_eq, decide_eq_false_iff_not, Bool.not_eq_true', Bool.not_eq_false'] at *; omega)) | exact decide_eq_decide.2 (by simp only [decide_eq_true_eq, decide_eq_false_iff_not, Bool.not_eq_true', Bool.not_eq_false'] at *; omega)), rfl⟩, hS6⟩
 ·
  have hg4b := hg4
  try simp only [decide_eq_true_eq, decide_eq_false_iff_not, Bool.not_eq_true', Bool.not_eq_false', Bool.and_eq_true, Bool.or_eq_true, Int.not_lt, Int.not_le, ne_eq, Decidable.not_not] at hg4
  refine l_on rfl rfl hg4b ?_
  refine l_q rfl rfl (q_moveI rfl) ?_
  refine l_on rfl rfl hg4b ?_
  refine l_q rfl rfl (q_load1 rfl (by kernel_rfl) (hS3.cell (i := 0) rfl rfl)) ?_
  refine l_on rfl rfl hg4b ?_
  refine l_q rfl rfl (q_leq rfl rfl) ?_
  refine l_q rfl rfl (q_pickF rfl hg4b rfl) ?_
  refine l_q rfl rfl (q_assignB rfl) ?_
  refine l_nil ?_
  refine hK2 _ _ ?_
  refine wp_seq_k (fun K8 hK8 => ?_)
  refine wp_region_lit ?_
  refine l_q rfl rfl (q_moveI rfl) ?_
  refine l_e rfl (fun K hK => ?_)
  refine e_store1 hS3 rfl rfl (by kernel_rfl) (by first | rfl | assumption) (i := 0) rfl rfl (fun w9 (hS9 : St _ _ [_] _) => ?_)
  clear hS3
  refine hK _ _ ?_; clear hK K
  refine l_nil ?_
  refine hK8 _ _ ?_
  refine wp_seq_k (fun K10 hK10 => ?_)
  refine wp_region_lit ?_
  refine l_q rfl rfl (q_moveB rfl) ?_
  refine l_q rfl rfl (q_assignB rfl) ?_
  refine l_nil ?_
  refine hK10 _ _ ?_
  refine wp_ret ?_
  refine c_ret1 rfl rfl ?_
  exact ⟨_, _, rfl, ⟨congrArg Value.bool (by first | (symm; exact decide_eq_true (by simp only [decide_eq_true_eq, decide_eq_false_iff_not, Bool.not_eq_true', Bool.not_eq_false'] at *; omega)) | (symm; exact decide_eq_false (by simp only [decide_eq_true_eq, decide_eq_false_iff_not, Bool.not_eq_true', Bool.not_eq_false'] at *; omega)) | exact decide_eq_decide.2 (by simp only [decide_eq_true_eq, decide_eq_false_iff_not, Bool.not_eq_true', Bool.not_eq_false'] at *; omega)), rfl⟩, hS9⟩

set_option maxRecDepth 100000 in
theorem lidx_ok (nd : List Int) (n : Nat) (hn : nd.length = n) (hm : n ≤ 2000000) (an : Option Addr) (cn : Nat) (bl : Nat) (w : World) (g : Gh) (hg : Rog [.blk bl (.cells #[.int .i64 (-1 : Int)] 3)] w g) (hG : SlG g an (iv nd)) (hS : St w (owns [.blk bl (.cells #[.int .i64 (-1 : Int)] 3)]) [.blk bl (.cells #[.int .i64 (-1 : Int)] 3)] w) : Calls Try.prog 42 #[.slice an n cn, .func (.func 45) #[] #[.pointer (some ⟨bl, 0, none⟩)]] w (Post w [.blk bl (.cells #[.int .i64 (-1 : Int)] 3)] fun v G => (∃ r : Int, v = .int .i64 r ∧ decide (0 ≤ r) = !risB (-1) nd) ∧ ∃ a, G = [.blk bl (.cells #[.int .i64 a] 3)]) := by
 subst hn
 refine c_enter Try.func42 rfl rfl rfl ?_
 refine wp_seq_k (fun K1 hK1 => ?_)
 refine wp_region_lit ?_
 refine l_q rfl rfl (q_assignI rfl) ?_
 refine l_nil ?_
 refine hK1 _ _ ?_
 refine wp_seq_k (fun K2 hK2 => ?_)
 refine wp_seq_k (fun K3 hK3 => ?_)
 refine wp_region_lit ?_
 refine l_q rfl rfl (q_moveS rfl) ?_
 refine l_q rfl rfl (q_lenSl (e := 3) rfl (by kernel_rfl)) ?_
 refine l_q rfl rfl (q_moveI rfl) ?_
 refine l_nil ?_
 refine hK3 _ _ ?_
 refine wp_block ?_
 refine c_loop (τ := Nat) [(4, 5), (8, 18)] (fun x => (fun (i : Nat) => [(8, .int .i64 (i : Int))]) x) (fun x w' => (fun (i : Nat) => St w (owns [.blk bl (.cells #[.int .i64 (-1 : Int)] 3)]) [.blk bl (.cells #[.int .i64 (lastN nd i)] 3)] w' ∧ i ≤ nd.length ∧ okTo nd i) x) (fun x => (fun (i : Nat) => nd.length - i) x) (0) ?_ (by repeat' (first | exact trivial | refine ⟨by first | rfl | exact int_succ _ | assumption, ?_⟩)) (fun i j4 w4 hJ4 K4 hK4 => ?_)
 ·
  exact ⟨hS.cast (by rw [lastN_zero]), Nat.zero_le _, okTo.zero nd⟩
 ·
  obtain ⟨hS4, hi, hk⟩ := hJ4
  try dsimp only at hS4 hi hk ⊢
  refine wp_seq_k (fun K5 hK5 => ?_)
  refine wp_region_lit ?_
  refine l_q rfl rfl (q_lss rfl rfl) ?_
  refine l_nil ?_
  refine hK5 _ _ ?_
  refine wp_seq_k (fun K6 hK6 => ?_)
  refine c_cond rfl (fun hc7 => ?_) (fun hc7 => ?_)
  ·
   have hc7b := hc7
   try simp only [decide_eq_true_eq, decide_eq_false_iff_not, Bool.not_eq_true', Bool.not_eq_false', Bool.and_eq_true, Bool.or_eq_true, Int.not_lt, Int.not_le, ne_eq, Decidable.not_not] at hc7
   refine wp_skip ?_
   refine hK6 _ _ ?_
   refine wp_seq_k (fun K8 hK8 => ?_)
   refine wp_block ?_
   refine wp_seq_k (fun K9 hK9 => ?_)
   refine wp_region_lit ?_
   refine l_q rfl rfl (q_moveI rfl) ?_
   refine l_q rfl rfl (q_assignI rfl) ?_
   refine l_nil ?_
   refine hK9 _ _ ?_
   refine wp_seq_k (fun K10 hK10 => ?_)
   refine wp_region_lit ?_
   refine l_q rfl rfl (q_move rfl) ?_
   refine l_q rfl rfl (q_moveS rfl) ?_
   refine l_q rfl rfl (q_moveI rfl) ?_
   refine l_q rfl rfl (q_ixG (e := 3) (m := 1) (j := i) rfl rfl (by kernel_rfl) (by kernel_rfl) (by first | rfl | omega) (by omega) hG (by rw [iv_len]; first | omega | (simp only [List.length_append, List.length_map, List.length_cons, List.length_nil, List.length_take, List.length_drop, List.length_set] <;> omega))) ?_
   obtain ⟨x11, hx11⟩ : ∃ x, (nd)[i]? = some x := ⟨_, List.getElem?_eq_getElem (by first | omega | (simp only [List.length_append, List.length_map, List.length_cons, List.length_nil, List.length_take, List.length_drop, List.length_set] <;> omega) | (simp <;> omega))⟩
   refine l_q rfl rfl (q_load1 rfl (by kernel_rfl) (SlG.cell (hG.mono (hg.le hS4)) (Gle.refl _) (at1 (iv_at hx11)))) ?_
   refine l_e rfl (fun K hK => ?_)
   refine e_callV (by kernel_rfl) rfl (lclos_ok x11 (lastN nd i) bl _ (St.begin (Γ := [_]) hS4)) rfl (after_M (Γ1 := [_]) hS4 (fun v12 G12 w12 hv12 hS12 => ?_))
   clear hS4
   obtain ⟨rfl, rfl⟩ := hv12
   have hS13 : St _ _ [.blk bl (.cells #[.int .i64 x11] 3)] _ := hS12; clear hS12
   refine hK _ _ ?_; clear hK K
   refine l_nil ?_
   refine hK10 _ _ ?_
   refine c_cond rfl (fun hc14 => ?_) (fun hc14 => ?_)
   ·
    have hc14b := hc14
    try simp only [decide_eq_true_eq, decide_eq_false_iff_not, Bool.not_eq_true', Bool.not_eq_false', Bool.and_eq_true, Bool.or_eq_true, Int.not_lt, Int.not_le, ne_eq, Decidable.not_not] at hc14
    refine wp_seq_k (fun K15 hK15 => ?_)
    refine wp_region_lit ?_
    refine l_q rfl rfl (q_moveI rfl) ?_
    refine l_q rfl rfl (q_assignI rfl) ?_
    refine l_nil ?_
    refine hK15 _ _ ?_
    refine wp_ret ?_
    refine c_ret1 rfl rfl ?_
    have hbad := okTo_bad hx11 (of_decide_eq_true hc14b)
    exact ⟨_, _, rfl, ⟨⟨_, rfl, by rw [hbad]; exact decide_eq_true (by omega)⟩, ⟨_, rfl⟩⟩, hS13⟩
   ·
    have hc14b := hc14
    try simp only [decide_eq_true_eq, decide_eq_false_iff_not, Bool.not_eq_true', Bool.not_eq_false', Bool.and_eq_true, Bool.or_eq_true, Int.not_lt, Int.not_le, ne_eq, Decidable.not_not] at hc14
    refine wp_skip ?_
    refine hK8 _ _ ?_
    refine wp_region_lit ?_
    refine l_q rfl rfl (q_addx rfl rfl (by first | decide | omega) (by first | decide | omega)) ?_
    refine l_q rfl rfl (q_moveI rfl) ?_
    refine l_nil ?_
    refine hK4 _ _ (came ((i + 1)) (by repeat' (first | exact Agree.refl _ _ | refine Agree.up ?_ rfl | refine Agree.hav2 ?_ rfl | refine Agree.ups2 ?_ rfl)) (by repeat' (first | exact trivial | refine ⟨by first | rfl | exact int_succ _ | assumption, ?_⟩)) ?_)
    have hnx := of_decide_eq_false hc14b
    exact ⟨⟨hS13.cast (by rw [lastN_succ hx11]), (by show i + 1 ≤ nd.length; omega), hk.next hx11 (Decidable.not_not.1 hnx)⟩, by (show nd.length - (i + 1) < nd.length - i); omega⟩
  ·
   have hc7b := hc7
   try simp only [decide_eq_true_eq, decide_eq_false_iff_not, Bool.not_eq_true', Bool.not_eq_false', Bool.and_eq_true, Bool.or_eq_true, Int.not_lt, Int.not_le, ne_eq, Decidable.not_not] at hc7
   refine wp_exit ?_
   refine hK2 _ _ ?_
   refine wp_seq_k (fun K16 hK16 => ?_)
   refine wp_region_lit ?_
   refine l_q rfl rfl (q_assignI rfl) ?_
   refine l_nil ?_
   refine hK16 _ _ ?_
   refine wp_ret ?_
   refine c_ret1 rfl rfl ?_
   have hii : i = nd.length := by omega
   rw [hii] at hk
   have hgood := okTo_ris.1 hk
   exact ⟨_, _, rfl, ⟨⟨_, rfl, by rw [hgood]; rfl⟩, ⟨_, rfl⟩⟩, hS4⟩

set_option maxRecDepth 100000 in
theorem lcon_ok (nd : List Int) (n : Nat) (hn : nd.length = n) (hm : n ≤ 2000000) (an : Option Addr) (cn : Nat) (bl : Nat) (w : World) (g : Gh) (hg : Rog [.blk bl (.cells #[.int .i64 (-1 : Int)] 3)] w g) (hG : SlG g an (iv nd)) (hS : St w (owns [.blk bl (.cells #[.int .i64 (-1 : Int)] 3)]) [.blk bl (.cells #[.int .i64 (-1 : Int)] 3)] w) : Calls Try.prog 44 #[.slice an n cn, .func (.func 45) #[] #[.pointer (some ⟨bl, 0, none⟩)]] w (Post w [.blk bl (.cells #[.int .i64 (-1 : Int)] 3)] fun v G => v = .bool (!risB (-1) nd) ∧ ∃ a, G = [.blk bl (.cells #[.int .i64 a] 3)]) := by
 subst hn
 refine c_enter Try.func44 rfl rfl rfl ?_
 refine wp_seq_k (fun K1 hK1 => ?_)
 refine wp_region_lit ?_
 refine l_q rfl rfl (q_assignB rfl) ?_
 refine l_nil ?_
 refine hK1 _ _ ?_
 refine wp_seq_k (fun K2 hK2 => ?_)
 refine wp_region_lit ?_
 refine l_q rfl rfl (q_moveS rfl) ?_
 refine l_q rfl rfl (q_move rfl) ?_
 refine l_e rfl (fun K hK => ?_)
 refine e_call (by kernel_rfl) (lidx_ok nd nd.length rfl hm _ _ bl _ _ (St.rogR (Γ1 := [_]) hS hg) hG (St.begin (Γ := [_]) hS)) rfl (after_M (Γ1 := [_]) hS (fun v3 G3 w3 hv3 hS3 => ?_))
 clear hS
 obtain ⟨⟨r3, rfl, hr3⟩, ⟨a3, rfl⟩⟩ := hv3
 have hS4 : St _ _ [.blk bl (.cells #[.int .i64 a3] 3)] _ := hS3; clear hS3
 refine hK _ _ ?_; clear hK K
 refine l_q rfl rfl (q_geq rfl rfl) ?_
 refine l_q rfl rfl (q_assignB rfl) ?_
 refine l_nil ?_
 refine hK2 _ _ ?_
 refine wp_ret ?_
 refine c_ret1 rfl rfl ?_
 exact ⟨_, _, rfl, ⟨congrArg Value.bool hr3, ⟨_, rfl⟩⟩, hS4⟩

theorem rl_no {l : Lr} (h : ¬(1 ≤ l.k ∧ l.k ≤ 8 ∧ 0 ≤ l.f ∧ l.f < 16 ∧ 0 ≤ l.t ∧ l.t < 16 ∧ 0 ≤ l.x ∧ l.x ≤ 1099511627776)) : false = rightL l := by
 unfold rightL; rw [decide_eq_false h]; rfl
theorem rl_2 {l : Lr} (h : 1 ≤ l.k ∧ l.k ≤ 8 ∧ 0 ≤ l.f ∧ l.f < 16 ∧ 0 ≤ l.t ∧ l.t < 16 ∧ 0 ≤ l.x ∧ l.x ≤ 1099511627776) (hk : ¬l.k = 1) : decide (((l.nd.length : Nat) : Int) = 0) = rightL l := by
 unfold rightL; rw [decide_eq_true h, if_neg hk, Bool.true_and]
 apply decide_eq_decide.2
 rw [← List.length_eq_zero_iff]; omega
theorem rl_1 {l : Lr} (h : 1 ≤ l.k ∧ l.k ≤ 8 ∧ 0 ≤ l.f ∧ l.f < 16 ∧ 0 ≤ l.t ∧ l.t < 16 ∧ 0 ≤ l.x ∧ l.x ≤ 1099511627776) (hk : l.k = 1) : (!!risB (-1) l.nd) = rightL l := by
 unfold rightL; rw [decide_eq_true h, if_pos hk, Bool.true_and, Bool.not_not]

set_option maxRecDepth 100000 in
theorem lright_ok (l : Lr) (n : Nat) (hn : l.nd.length = n) (hm : n ≤ 2000000) (an : Option Addr) (cn : Nat) (w : World) (hG : SlG (hw w) an (iv l.nd)) : Calls Try.prog 36 #[.agg #[.int .i64 l.k, .int .i64 l.f, .int .i64 l.t, .int .i64 l.x, .slice an n cn]] w (PostR w fun v => v = .bool (rightL l)) := by
 have hS := St.start w
 subst hn
 refine c_enter Try.func36 rfl rfl rfl ?_
 refine wp_seq_k (fun K1 hK1 => ?_)
 refine wp_region_lit ?_
 refine l_e rfl (fun K hK => ?_)
 refine e_boxA hS rfl (fun b2 w2 (hS2 : St _ _ [.blk b2 (.cells #[.int .i64 l.k, .int .i64 l.f, .int .i64 l.t, .int .i64 l.x, .slice an l.nd.length cn] 25)] _) => ?_)
 clear hS
 refine hK _ _ ?_; clear hK K
 refine l_q rfl rfl (q_assignB rfl) ?_
 refine l_nil ?_
 refine hK1 _ _ ?_
 refine wp_seq_k (fun K3 hK3 => ?_)
 refine wp_block ?_
 refine wp_seq_k (fun K4 hK4 => ?_)
 refine wp_region_lit ?_
 refine l_q rfl rfl (q_fieldAddr (ft := 22) (o := 0) rfl (by kernel_rfl)) ?_
 refine l_q rfl rfl (q_load1 rfl (by kernel_rfl) (hS2.cell (i := 0) rfl rfl)) ?_
 refine l_q rfl rfl (q_lss rfl rfl) ?_
 refine l_q rfl rfl (q_moveB rfl) ?_
 refine g_splitL (t := 8) rfl (fun hg5 => ?_) (fun hg5 => ?_)
 ·
  have hg5b := hg5
  try simp only [decide_eq_true_eq, decide_eq_false_iff_not, Bool.not_eq_true', Bool.not_eq_false', Bool.and_eq_true, Bool.or_eq_true, Int.not_lt, Int.not_le, ne_eq, Decidable.not_not] at hg5
  refine l_off rfl rfl rfl hg5b ?_
  refine l_off rfl rfl rfl hg5b ?_
  refine l_off rfl rfl rfl hg5b ?_
  refine l_q rfl rfl (q_pickT rfl hg5b rfl) ?_
  refine l_q rfl rfl (q_moveB rfl) ?_
  refine l_off rfl rfl rfl rfl ?_
  refine l_off rfl rfl rfl rfl ?_
  refine l_off rfl rfl rfl rfl ?_
  refine l_off rfl rfl rfl rfl ?_
  refine l_q rfl rfl (q_pickT rfl rfl rfl) ?_
  refine l_q rfl rfl (q_moveB rfl) ?_
  refine l_off rfl rfl rfl rfl ?_
  refine l_off rfl rfl rfl rfl ?_
  refine l_off rfl rfl rfl rfl ?_
  refine l_off rfl rfl rfl rfl ?_
  refine l_q rfl rfl (q_pickT rfl rfl rfl) ?_
  refine l_q rfl rfl (q_moveB rfl) ?_
  refine l_off rfl rfl rfl rfl ?_
  refine l_off rfl rfl rfl rfl ?_
  refine l_off rfl rfl rfl rfl ?_
  refine l_q rfl rfl (q_pickT rfl rfl rfl) ?_
  refine l_q rfl rfl (q_moveB rfl) ?_
  refine l_off rfl rfl rfl rfl ?_
  refine l_off rfl rfl rfl rfl ?_
  refine l_off rfl rfl rfl rfl ?_
  refine l_q rfl rfl (q_pickT rfl rfl rfl) ?_
  refine l_q rfl rfl (q_assignB rfl) ?_
  refine l_nil ?_
  refine hK4 _ _ ?_
  refine c_condT rfl rfl ?_
  refine wp_seq_k (fun K7 hK7 => ?_)
  refine wp_region_lit ?_
  refine l_q rfl rfl (q_assignB rfl) ?_
  refine l_nil ?_
  refine hK7 _ _ ?_
  refine wp_ret ?_
  refine c_ret1 rfl rfl ?_
  exact ⟨_, rfl, congrArg Value.bool (rl_no (by simp only [decide_eq_true_eq, decide_eq_false_iff_not, Bool.not_eq_true', Bool.not_eq_false'] at *; omega)), hS2.drop⟩
 ·
  have hg5b := hg5
  try simp only [decide_eq_true_eq, decide_eq_false_iff_not, Bool.not_eq_true', Bool.not_eq_false', Bool.and_eq_true, Bool.or_eq_true, Int.not_lt, Int.not_le, ne_eq, Decidable.not_not] at hg5
  refine l_on rfl rfl hg5b ?_
  refine l_q rfl rfl (q_fieldAddr (ft := 22) (o := 0) rfl (by kernel_rfl)) ?_
  refine l_on rfl rfl hg5b ?_
  refine l_q rfl rfl (q_load1 rfl (by kernel_rfl) (hS2.cell (i := 0) rfl rfl)) ?_
  refine l_on rfl rfl hg5b ?_
  refine l_q rfl rfl (q_gtr rfl rfl) ?_
  refine l_q rfl rfl (q_pickF rfl hg5b rfl) ?_
  refine l_q rfl rfl (q_moveB rfl) ?_
  refine g_splitL (t := 13) rfl (fun hg8 => ?_) (fun hg8 => ?_)
  ·
   have hg8b := hg8
   try simp only [decide_eq_true_eq, decide_eq_false_iff_not, Bool.not_eq_true', Bool.not_eq_false', Bool.and_eq_true, Bool.or_eq_true, Int.not_lt, Int.not_le, ne_eq, Decidable.not_not] at hg8
   refine l_off rfl rfl rfl hg8b ?_
   refine l_off rfl rfl rfl hg8b ?_
   refine l_off rfl rfl rfl hg8b ?_
   refine l_off rfl rfl rfl hg8b ?_
   refine l_q rfl rfl (q_pickT rfl hg8b rfl) ?_
   refine l_q rfl rfl (q_moveB rfl) ?_
   refine l_off rfl rfl rfl rfl ?_
   refine l_off rfl rfl rfl rfl ?_
   refine l_off rfl rfl rfl rfl ?_
   refine l_off rfl rfl rfl rfl ?_
   refine l_q rfl rfl (q_pickT rfl rfl rfl) ?_
   refine l_q rfl rfl (q_moveB rfl) ?_
   refine l_off rfl rfl rfl rfl ?_
   refine l_off rfl rfl rfl rfl ?_
   refine l_off rfl rfl rfl rfl ?_
   refine l_q rfl rfl (q_pickT rfl rfl rfl) ?_
   refine l_q rfl rfl (q_moveB rfl) ?_
   refine l_off rfl rfl rfl rfl ?_
   refine l_off rfl rfl rfl rfl ?_
   refine l_off rfl rfl rfl rfl ?_
   refine l_q rfl rfl (q_pickT rfl rfl rfl) ?_
   refine l_q rfl rfl (q_assignB rfl) ?_
   refine l_nil ?_
   refine hK4 _ _ ?_
   refine c_condT rfl rfl ?_
   refine wp_seq_k (fun K10 hK10 => ?_)
   refine wp_region_lit ?_
   refine l_q rfl rfl (q_assignB rfl) ?_
   refine l_nil ?_
   refine hK10 _ _ ?_
   refine wp_ret ?_
   refine c_ret1 rfl rfl ?_
   exact ⟨_, rfl, congrArg Value.bool (rl_no (by simp only [decide_eq_true_eq, decide_eq_false_iff_not, Bool.not_eq_true', Bool.not_eq_false'] at *; omega)), hS2.drop⟩
  ·
   have hg8b := hg8
   try simp only [decide_eq_true_eq, decide_eq_false_iff_not, Bool.not_eq_true', Bool.not_eq_false', Bool.and_eq_true, Bool.or_eq_true, Int.not_lt, Int.not_le, ne_eq, Decidable.not_not] at hg8
   refine l_on rfl rfl hg8b ?_
   refine l_q rfl rfl (q_fieldAddr (ft := 3) (o := 1) rfl (by kernel_rfl)) ?_
   refine l_on rfl rfl hg8b ?_
   refine l_q rfl rfl (q_load1 rfl (by kernel_rfl) (hS2.cell (i := 0) rfl rfl)) ?_
   refine l_on rfl rfl hg8b ?_
   refine l_e rfl (fun K hK => ?_)
   refine e_call (by kernel_rfl) (node_ok l.f _) rfl (after_R hS2 (fun v11 w11 hv11 hS11 => ?_))
   clear hS2
   obtain rfl := hv11
   refine hK _ _ ?_; clear hK K
   refine l_on rfl rfl hg8b ?_
   refine l_q rfl rfl (q_not rfl) ?_
   refine l_q rfl rfl (q_pickF rfl hg8b rfl) ?_
   refine l_q rfl rfl (q_moveB rfl) ?_
   refine g_splitL (t := 19) rfl (fun hg12 => ?_) (fun hg12 => ?_)
   ·
    have hg12b := hg12
    try simp only [decide_eq_true_eq, decide_eq_false_iff_not, Bool.not_eq_true', Bool.not_eq_false', Bool.and_eq_true, Bool.or_eq_true, Int.not_lt, Int.not_le, ne_eq, Decidable.not_not] at hg12
    refine l_off rfl rfl rfl hg12b ?_
    refine l_off rfl rfl rfl hg12b ?_
    refine l_off rfl rfl rfl hg12b ?_
    refine l_off rfl rfl rfl hg12b ?_
    refine l_q rfl rfl (q_pickT rfl hg12b rfl) ?_
    refine l_q rfl rfl (q_moveB rfl) ?_
    refine l_off rfl rfl rfl rfl ?_
    refine l_off rfl rfl rfl rfl ?_
    refine l_off rfl rfl rfl rfl ?_
    refine l_q rfl rfl (q_pickT rfl rfl rfl) ?_
    refine l_q rfl rfl (q_moveB rfl) ?_
    refine l_off rfl rfl rfl rfl ?_
    refine l_off rfl rfl rfl rfl ?_
    refine l_off rfl rfl rfl rfl ?_
    refine l_q rfl rfl (q_pickT rfl rfl rfl) ?_
    refine l_q rfl rfl (q_assignB rfl) ?_
    refine l_nil ?_
    refine hK4 _ _ ?_
    refine c_condT rfl rfl ?_
    refine wp_seq_k (fun K14 hK14 => ?_)
    refine wp_region_lit ?_
    refine l_q rfl rfl (q_assignB rfl) ?_
    refine l_nil ?_
    refine hK14 _ _ ?_
    refine wp_ret ?_
    refine c_ret1 rfl rfl ?_
    exact ⟨_, rfl, congrArg Value.bool (rl_no (by simp only [decide_eq_true_eq, decide_eq_false_iff_not, Bool.not_eq_true', Bool.not_eq_false'] at *; omega)), hS11.drop⟩
   ·
    have hg12b := hg12
    try simp only [decide_eq_true_eq, decide_eq_false_iff_not, Bool.not_eq_true', Bool.not_eq_false', Bool.and_eq_true, Bool.or_eq_true, Int.not_lt, Int.not_le, ne_eq, Decidable.not_not] at hg12
    refine l_on rfl rfl hg12b ?_
    refine l_q rfl rfl (q_fieldAddr (ft := 3) (o := 2) rfl (by kernel_rfl)) ?_
    refine l_on rfl rfl hg12b ?_
    refine l_q rfl rfl (q_load1 rfl (by kernel_rfl) (hS11.cell (i := 0) rfl rfl)) ?_
    refine l_on rfl rfl hg12b ?_
    refine l_e rfl (fun K hK => ?_)
    refine e_call (by kernel_rfl) (node_ok l.t _) rfl (after_R hS11 (fun v15 w15 hv15 hS15 => ?_))
    clear hS11
    obtain rfl := hv15
    refine hK _ _ ?_; clear hK K
    refine l_on rfl rfl hg12b ?_
    refine l_q rfl rfl (q_not rfl) ?_
    refine l_q rfl rfl (q_pickF rfl hg12b rfl) ?_
    refine l_q rfl rfl (q_moveB rfl) ?_
    refine g_splitL (t := 25) rfl (fun hg16 => ?_) (fun hg16 => ?_)
    ·
     have hg16b := hg16
     try simp only [decide_eq_true_eq, decide_eq_false_iff_not, Bool.not_eq_true', Bool.not_eq_false', Bool.and_eq_true, Bool.or_eq_true, Int.not_lt, Int.not_le, ne_eq, Decidable.not_not] at hg16
     refine l_off rfl rfl rfl hg16b ?_
     refine l_off rfl rfl rfl hg16b ?_
     refine l_off rfl rfl rfl hg16b ?_
     refine l_q rfl rfl (q_pickT rfl hg16b rfl) ?_
     refine l_q rfl rfl (q_moveB rfl) ?_
     refine l_off rfl rfl rfl rfl ?_
     refine l_off rfl rfl rfl rfl ?_
     refine l_off rfl rfl rfl rfl ?_
     refine l_q rfl rfl (q_pickT rfl rfl rfl) ?_
     refine l_q rfl rfl (q_assignB rfl) ?_
     refine l_nil ?_
     refine hK4 _ _ ?_
     refine c_condT rfl rfl ?_
     refine wp_seq_k (fun K18 hK18 => ?_)
     refine wp_region_lit ?_
     refine l_q rfl rfl (q_assignB rfl) ?_
     refine l_nil ?_
     refine hK18 _ _ ?_
     refine wp_ret ?_
     refine c_ret1 rfl rfl ?_
     exact ⟨_, rfl, congrArg Value.bool (rl_no (by simp only [decide_eq_true_eq, decide_eq_false_iff_not, Bool.not_eq_true', Bool.not_eq_false'] at *; omega)), hS15.drop⟩
    ·
     have hg16b := hg16
     try simp only [decide_eq_true_eq, decide_eq_false_iff_not, Bool.not_eq_true', Bool.not_eq_false', Bool.and_eq_true, Bool.or_eq_true, Int.not_lt, Int.not_le, ne_eq, Decidable.not_not] at hg16
     refine l_on rfl rfl hg16b ?_
     refine l_q rfl rfl (q_fieldAddr (ft := 3) (o := 3) rfl (by kernel_rfl)) ?_
     refine l_on rfl rfl hg16b ?_
     refine l_q rfl rfl (q_load1 rfl (by kernel_rfl) (hS15.cell (i := 0) rfl rfl)) ?_
     refine l_on rfl rfl hg16b ?_
     refine l_q rfl rfl (q_lss rfl rfl) ?_
     refine l_q rfl rfl (q_pickF rfl hg16b rfl) ?_
     refine l_q rfl rfl (q_moveB rfl) ?_
     refine g_splitL (t := 30) rfl (fun hg19 => ?_) (fun hg19 => ?_)
     ·
      have hg19b := hg19
      try simp only [decide_eq_true_eq, decide_eq_false_iff_not, Bool.not_eq_true', Bool.not_eq_false', Bool.and_eq_true, Bool.or_eq_true, Int.not_lt, Int.not_le, ne_eq, Decidable.not_not] at hg19
      refine l_off rfl rfl rfl hg19b ?_
      refine l_off rfl rfl rfl hg19b ?_
      refine l_off rfl rfl rfl hg19b ?_
      refine l_q rfl rfl (q_pickT rfl hg19b rfl) ?_
      refine l_q rfl rfl (q_assignB rfl) ?_
      refine l_nil ?_
      refine hK4 _ _ ?_
      refine c_condT rfl rfl ?_
      refine wp_seq_k (fun K21 hK21 => ?_)
      refine wp_region_lit ?_
      refine l_q rfl rfl (q_assignB rfl) ?_
      refine l_nil ?_
      refine hK21 _ _ ?_
      refine wp_ret ?_
      refine c_ret1 rfl rfl ?_
      exact ⟨_, rfl, congrArg Value.bool (rl_no (by simp only [decide_eq_true_eq, decide_eq_false_iff_not, Bool.not_eq_true', Bool.not_eq_false'] at *; omega)), hS15.drop⟩
     ·
      have hg19b := hg19
      try simp only [decide_eq_true_eq, decide_eq_false_iff_not, Bool.not_eq_true', Bool.not_eq_false', Bool.and_eq_true, Bool.or_eq_true, Int.not_lt, Int.not_le, ne_eq, Decidable.not_not] at hg19
      refine l_on rfl rfl hg19b ?_
      refine l_q rfl rfl (q_fieldAddr (ft := 3) (o := 3) rfl (by kernel_rfl)) ?_
      refine l_on rfl rfl hg19b ?_
      refine l_q rfl rfl (q_load1 rfl (by kernel_rfl) (hS15.cell (i := 0) rfl rfl)) ?_
      refine l_on rfl rfl hg19b ?_
      refine l_q rfl rfl (q_gtr rfl rfl) ?_
      refine l_q rfl rfl (q_pickF rfl hg19b rfl) ?_
      refine l_q rfl rfl (q_assignB rfl) ?_
      refine l_nil ?_
      refine hK4 _ _ ?_
      refine c_cond rfl (fun hc22 => ?_) (fun hc22 => ?_)
      ·
       have hc22b := hc22
       try simp only [decide_eq_true_eq, decide_eq_false_iff_not, Bool.not_eq_true', Bool.not_eq_false', Bool.and_eq_true, Bool.or_eq_true, Int.not_lt, Int.not_le, ne_eq, Decidable.not_not] at hc22
       refine wp_seq_k (fun K23 hK23 => ?_)
       refine wp_region_lit ?_
       refine l_q rfl rfl (q_assignB rfl) ?_
       refine l_nil ?_
       refine hK23 _ _ ?_
       refine wp_ret ?_
       refine c_ret1 rfl rfl ?_
       exact ⟨_, rfl, congrArg Value.bool (rl_no (by simp only [decide_eq_true_eq, decide_eq_false_iff_not, Bool.not_eq_true', Bool.not_eq_false'] at *; omega)), hS15.drop⟩
      ·
       have hc22b := hc22
       try simp only [decide_eq_true_eq, decide_eq_false_iff_not, Bool.not_eq_true', Bool.not_eq_false', Bool.and_eq_true, Bool.or_eq_true, Int.not_lt, Int.not_le, ne_eq, Decidable.not_not] at hc22
       refine wp_seq_k (fun K24 hK24 => ?_)
       refine wp_region_lit ?_
       refine l_q rfl rfl (q_fieldAddr (ft := 22) (o := 0) rfl (by kernel_rfl)) ?_
       refine l_q rfl rfl (q_load1 rfl (by kernel_rfl) (hS15.cell (i := 0) rfl rfl)) ?_
       refine l_q rfl rfl (q_neq rfl rfl) ?_
       refine l_q rfl rfl (q_assignB rfl) ?_
       refine l_nil ?_
       refine hK24 _ _ ?_
       refine c_cond rfl (fun hc25 => ?_) (fun hc25 => ?_)
       ·
        have hc25b := hc25
        try simp only [decide_eq_true_eq, decide_eq_false_iff_not, Bool.not_eq_true', Bool.not_eq_false', Bool.and_eq_true, Bool.or_eq_true, Int.not_lt, Int.not_le, ne_eq, Decidable.not_not] at hc25
        refine wp_seq_k (fun K26 hK26 => ?_)
        refine wp_region_lit ?_
        refine l_q rfl rfl (q_fieldAddr (ft := 23) (o := 4) rfl (by kernel_rfl)) ?_
        refine l_q rfl rfl (q_load1 rfl (by kernel_rfl) (hS15.cell (i := 0) rfl rfl)) ?_
        refine l_q rfl rfl (q_lenSl (e := 3) rfl (by kernel_rfl)) ?_
        refine l_q rfl rfl (q_eql rfl rfl) ?_
        refine l_q rfl rfl (q_assignB rfl) ?_
        refine l_nil ?_
        refine hK26 _ _ ?_
        refine wp_ret ?_
        refine c_ret1 rfl rfl ?_
        exact ⟨_, rfl, congrArg Value.bool (rl_2 (by simp only [decide_eq_true_eq, decide_eq_false_iff_not, Bool.not_eq_true', Bool.not_eq_false'] at *; omega) (by omega)), hS15.drop⟩
       ·
        have hc25b := hc25
        try simp only [decide_eq_true_eq, decide_eq_false_iff_not, Bool.not_eq_true', Bool.not_eq_false', Bool.and_eq_true, Bool.or_eq_true, Int.not_lt, Int.not_le, ne_eq, Decidable.not_not] at hc25
        refine wp_skip ?_
        refine hK3 _ _ ?_
        refine wp_seq_k (fun K27 hK27 => ?_)
        refine wp_region_lit ?_
        refine l_e rfl (fun K hK => ?_)
        refine e_alloc (zv := .int .i64 0) hS15 (by kernel_rfl) (fun b28 w28 (hS28 : St _ _ [.blk b28 (.cells #[.int .i64 (0 : Int)] 3), _] _) => ?_)
        clear hS15
        refine hK _ _ ?_; clear hK K
        refine l_e rfl (fun K hK => ?_)
        refine e_store1 hS28 rfl rfl (by kernel_rfl) (by first | rfl | assumption) (i := 0) rfl rfl (fun w29 (hS29 : St _ _ [.blk b28 (.cells #[.int .i64 (-1 : Int)] 3), _] _) => ?_)
        clear hS28
        refine hK _ _ ?_; clear hK K
        refine l_nil ?_
        refine hK27 _ _ ?_
        refine wp_seq_k (fun K30 hK30 => ?_)
        refine wp_region_lit ?_
        refine l_q rfl rfl (q_fieldAddr (ft := 23) (o := 4) rfl (by kernel_rfl)) ?_
        refine l_q rfl rfl (q_load1 rfl (by kernel_rfl) (hS29.cell (i := 1) rfl rfl)) ?_
        refine l_q rfl rfl (q_makeFunc) ?_
        refine l_e rfl (fun K hK => ?_)
        refine e_call (by kernel_rfl) (lcon_ok l.nd l.nd.length rfl hm _ _ b28 _ _ (St.rogB (Γ1 := [_]) hS29) hG (St.begin (Γ := [_]) hS29)) rfl (after_M (Γ1 := [_]) hS29 (fun v31 G31 w31 hv31 hS31 => ?_))
        clear hS29
        obtain ⟨rfl, ⟨a31, rfl⟩⟩ := hv31
        have hS32 : St _ _ [.blk b28 (.cells #[.int .i64 a31] 3), _] _ := hS31; clear hS31
        refine hK _ _ ?_; clear hK K
        refine l_q rfl rfl (q_not rfl) ?_
        refine l_q rfl rfl (q_assignB rfl) ?_
        refine l_nil ?_
        refine hK30 _ _ ?_
        refine wp_ret ?_
        refine c_ret1 rfl rfl ?_
        exact ⟨_, rfl, congrArg Value.bool (rl_1 (by simp only [decide_eq_true_eq, decide_eq_false_iff_not, Bool.not_eq_true', Bool.not_eq_false'] at *; omega) (by omega)), hS32.drop⟩

end Go.Proofs.Ytlplhlncdfhhoaa
