/- Letters: the document's Right, Same. -/
import Derived.Test.YtlplhlncdfhhoaaRi
set_option linter.unusedVariables false
set_option linter.unusedSimpArgs false
namespace Go.Proofs.Ytlplhlncdfhhoaa
open Go.RowKit
theorem lastN_pos {nd : List Int} {i : Nat} {y : Int} (h : nd[i - 1]? = some y) (hi : 0 < i) : lastN nd i = y := by
  have := lastN_succ h
  rwa [show i - 1 + 1 = i from by omega] at this
theorem bad_right {l : Lr} (h : risB (-1) l.nd = false) : false = rightL l := by
  symm
  rw [Bool.eq_false_iff]
  intro h'
  rw [rightL_ris h'] at h; cases h
theorem good_1 {l : Lr} (h : 1 ≤ l.k ∧ l.k ≤ 8 ∧ 0 ≤ l.f ∧ l.f < 16 ∧ 0 ≤ l.t ∧ l.t < 16 ∧ 0 ≤ l.x ∧ l.x ≤ 1099511627776) (hr : risB (-1) l.nd = true) (hk : l.k = 1) : true = rightL l := (rightL_iff.2 ⟨h, fun _ => hr, fun h' => absurd hk h'⟩).symm
def sameL (a b : Lr) : Bool := decide (a.k = b.k ∧ a.f = b.f ∧ a.t = b.t ∧ a.x = b.x ∧ a.nd = b.nd)
theorem sameL_rfl (a : Lr) : sameL a a = true := decide_eq_true ⟨rfl, rfl, rfl, rfl, rfl⟩
theorem sameL_eq {a b : Lr} (h : sameL a b = true) : a = b := by
  obtain ⟨h1, h2, h3, h4, h5⟩ := of_decide_eq_true h
  cases a; cases b; simp only at h1 h2 h3 h4 h5; subst h1 h2 h3 h4 h5; rfl
theorem same_no1 {a b : Lr} (h : ¬(a.k = b.k ∧ a.f = b.f ∧ a.t = b.t ∧ a.x = b.x ∧ (a.nd.length : Int) = b.nd.length)) : false = sameL a b := by
  symm; exact decide_eq_false fun ⟨h1, h2, h3, h4, h5⟩ => h ⟨h1, h2, h3, h4, by rw [h5]⟩
theorem same_no2 {a b : Lr} {i : Nat} {x y : Int} (hx : a.nd[i]? = some x) (hy : b.nd[i]? = some y) (h : ¬x = y) : false = sameL a b := by
  symm; exact decide_eq_false fun ⟨_, _, _, _, h5⟩ => h (by rw [h5, hy] at hx; exact (Option.some.inj hx).symm)
theorem same_yes {a b : Lr} (h : a.k = b.k ∧ a.f = b.f ∧ a.t = b.t ∧ a.x = b.x ∧ (a.nd.length : Int) = b.nd.length) (hs : ∀ j, j < a.nd.length → a.nd[j]? = b.nd[j]?) : true = sameL a b := by
  symm
  refine decide_eq_true ⟨h.1, h.2.1, h.2.2.1, h.2.2.2.1, List.ext_getElem? fun j => ?_⟩
  by_cases hj : j < a.nd.length
  · exact hs j hj
  · rw [List.getElem?_eq_none (by omega), List.getElem?_eq_none (by omega)]
theorem same_next {a b : Lr} {i : Nat} {x y : Int} (hs : ∀ j, j < i → a.nd[j]? = b.nd[j]?) (hx : a.nd[i]? = some x) (hy : b.nd[i]? = some y) (h : x = y) : ∀ j, j < i + 1 → a.nd[j]? = b.nd[j]? := fun j hj => by
  by_cases e : j = i
  · subst e; rw [hx, hy, h]
  · exact hs j (by omega)
attribute [local irreducible] Oper.wp Sem.run Code.wp wpList wpAnyO callFunc execOp Calls
attribute [local irreducible] toU short rencs renc rowE encRow rightB zig unzig decRw rightL risB lastN bitsOf nodesTo encL encLE sameL

set_option maxHeartbeats 2000000 in
set_option maxRecDepth 100000 in
theorem lrright_ok (l : Lr) (n : Nat) (hn : l.nd.length = n) (hm : n ≤ 2000000) (an : Option Addr) (cn : Nat) (w : World) (hG : SlG (hw w) an (iv l.nd)) : Calls Try.prog 34 #[.agg #[.int .i64 l.k, .int .i64 l.f, .int .i64 l.t, .int .i64 l.x, .slice an n cn]] w (PostR w fun v => v = .bool (rightL l)) := by
 have hS := St.start w
 subst hn
 refine c_enter Try.func34 rfl rfl rfl ?_
 refine wp_seq_k (fun K1 hK1 => ?_)
 refine wp_region_lit ?_
 refine l_e rfl (fun K hK => ?_)
 refine e_boxA hS rfl (fun b2 w2 (hS2 : St _ _ [.blk b2 (.cells #[.int .i64 l.k, .int .i64 l.f, .int .i64 l.t, .int .i64 l.x, .slice an l.nd.length cn] 25)] _) => ?_)
 clear hS
 refine hK _ _ ?_; clear hK K
 refine l_q rfl rfl (q_assignB rfl) ?_
 refine l_nil ?_
 refine hK1 _ _ ?_
 refine wp_seq_k (fun K3 hK3 => ?_)
 refine wp_seq_k (fun K4 hK4 => ?_)
 refine wp_region_lit ?_
 refine l_q rfl rfl (q_fieldAddr (ft := 22) (o := 0) rfl (by kernel_rfl)) ?_
 refine l_q rfl rfl (q_load1 rfl (by kernel_rfl) (hS2.cell (i := 0) rfl rfl)) ?_
 refine l_q rfl rfl (q_lss rfl rfl) ?_
 refine l_q rfl rfl (q_moveB rfl) ?_
 refine g_splitL (t := 7) rfl (fun hg5 => ?_) (fun hg5 => ?_)
 ·
  have hg5b := hg5
  try simp only [decide_eq_true_eq, decide_eq_false_iff_not, Bool.not_eq_true', Bool.not_eq_false', Bool.and_eq_true, Bool.or_eq_true, Int.not_lt, Int.not_le, ne_eq, Decidable.not_not] at hg5
  refine l_off rfl rfl rfl hg5b ?_
  refine l_off rfl rfl rfl hg5b ?_
  refine l_off rfl rfl rfl hg5b ?_
  refine l_q rfl rfl (q_pickT rfl hg5b rfl) ?_
  refine l_q rfl rfl (q_moveB rfl) ?_
  refine l_off rfl rfl rfl rfl ?_
  refine l_off rfl rfl rfl rfl ?_
  refine l_off rfl rfl rfl rfl ?_
  refine l_q rfl rfl (q_pickT rfl rfl rfl) ?_
  refine l_q rfl rfl (q_moveB rfl) ?_
  refine l_off rfl rfl rfl rfl ?_
  refine l_off rfl rfl rfl rfl ?_
  refine l_off rfl rfl rfl rfl ?_
  refine l_q rfl rfl (q_pickT rfl rfl rfl) ?_
  refine l_q rfl rfl (q_moveB rfl) ?_
  refine l_off rfl rfl rfl rfl ?_
  refine l_off rfl rfl rfl rfl ?_
  refine l_off rfl rfl rfl rfl ?_
  refine l_q rfl rfl (q_pickT rfl rfl rfl) ?_
  refine l_q rfl rfl (q_moveB rfl) ?_
  refine l_off rfl rfl rfl rfl ?_
  refine l_off rfl rfl rfl rfl ?_
  refine l_off rfl rfl rfl rfl ?_
  refine l_q rfl rfl (q_pickT rfl rfl rfl) ?_
  refine l_q rfl rfl (q_moveB rfl) ?_
  refine l_off rfl rfl rfl rfl ?_
  refine l_off rfl rfl rfl rfl ?_
  refine l_off rfl rfl rfl rfl ?_
  refine l_q rfl rfl (q_pickT rfl rfl rfl) ?_
  refine l_q rfl rfl (q_moveB rfl) ?_
  refine l_off rfl rfl rfl rfl ?_
  refine l_off rfl rfl rfl rfl ?_
  refine l_off rfl rfl rfl rfl ?_
  refine l_q rfl rfl (q_pickT rfl rfl rfl) ?_
  refine l_nil ?_
  refine hK4 _ _ ?_
  refine c_condT rfl rfl ?_
  refine wp_seq_k (fun K7 hK7 => ?_)
  refine wp_region_lit ?_
  refine l_q rfl rfl (q_assignB rfl) ?_
  refine l_nil ?_
  refine hK7 _ _ ?_
  refine wp_ret ?_
  refine c_ret1 rfl rfl ?_
  exact ⟨_, rfl, congrArg Value.bool (rl_no (by simp only [decide_eq_true_eq, decide_eq_false_iff_not, Bool.not_eq_true', Bool.not_eq_false'] at *; omega)), hS2.drop⟩
 ·
  have hg5b := hg5
  try simp only [decide_eq_true_eq, decide_eq_false_iff_not, Bool.not_eq_true', Bool.not_eq_false', Bool.and_eq_true, Bool.or_eq_true, Int.not_lt, Int.not_le, ne_eq, Decidable.not_not] at hg5
  refine l_on rfl rfl hg5b ?_
  refine l_q rfl rfl (q_fieldAddr (ft := 22) (o := 0) rfl (by kernel_rfl)) ?_
  refine l_on rfl rfl hg5b ?_
  refine l_q rfl rfl (q_load1 rfl (by kernel_rfl) (hS2.cell (i := 0) rfl rfl)) ?_
  refine l_on rfl rfl hg5b ?_
  refine l_q rfl rfl (q_gtr rfl rfl) ?_
  refine l_q rfl rfl (q_pickF rfl hg5b rfl) ?_
  refine l_q rfl rfl (q_moveB rfl) ?_
  refine g_splitL (t := 12) rfl (fun hg8 => ?_) (fun hg8 => ?_)
  ·
   have hg8b := hg8
   try simp only [decide_eq_true_eq, decide_eq_false_iff_not, Bool.not_eq_true', Bool.not_eq_false', Bool.and_eq_true, Bool.or_eq_true, Int.not_lt, Int.not_le, ne_eq, Decidable.not_not] at hg8
   refine l_off rfl rfl rfl hg8b ?_
   refine l_off rfl rfl rfl hg8b ?_
   refine l_off rfl rfl rfl hg8b ?_
   refine l_q rfl rfl (q_pickT rfl hg8b rfl) ?_
   refine l_q rfl rfl (q_moveB rfl) ?_
   refine l_off rfl rfl rfl rfl ?_
   refine l_off rfl rfl rfl rfl ?_
   refine l_off rfl rfl rfl rfl ?_
   refine l_q rfl rfl (q_pickT rfl rfl rfl) ?_
   refine l_q rfl rfl (q_moveB rfl) ?_
   refine l_off rfl rfl rfl rfl ?_
   refine l_off rfl rfl rfl rfl ?_
   refine l_off rfl rfl rfl rfl ?_
   refine l_q rfl rfl (q_pickT rfl rfl rfl) ?_
   refine l_q rfl rfl (q_moveB rfl) ?_
   refine l_off rfl rfl rfl rfl ?_
   refine l_off rfl rfl rfl rfl ?_
   refine l_off rfl rfl rfl rfl ?_
   refine l_q rfl rfl (q_pickT rfl rfl rfl) ?_
   refine l_q rfl rfl (q_moveB rfl) ?_
   refine l_off rfl rfl rfl rfl ?_
   refine l_off rfl rfl rfl rfl ?_
   refine l_off rfl rfl rfl rfl ?_
   refine l_q rfl rfl (q_pickT rfl rfl rfl) ?_
   refine l_q rfl rfl (q_moveB rfl) ?_
   refine l_off rfl rfl rfl rfl ?_
   refine l_off rfl rfl rfl rfl ?_
   refine l_off rfl rfl rfl rfl ?_
   refine l_q rfl rfl (q_pickT rfl rfl rfl) ?_
   refine l_nil ?_
   refine hK4 _ _ ?_
   refine c_condT rfl rfl ?_
   refine wp_seq_k (fun K10 hK10 => ?_)
   refine wp_region_lit ?_
   refine l_q rfl rfl (q_assignB rfl) ?_
   refine l_nil ?_
   refine hK10 _ _ ?_
   refine wp_ret ?_
   refine c_ret1 rfl rfl ?_
   exact ⟨_, rfl, congrArg Value.bool (rl_no (by simp only [decide_eq_true_eq, decide_eq_false_iff_not, Bool.not_eq_true', Bool.not_eq_false'] at *; omega)), hS2.drop⟩
  ·
   have hg8b := hg8
   try simp only [decide_eq_true_eq, decide_eq_false_iff_not, Bool.not_eq_true', Bool.not_eq_false', Bool.and_eq_true, Bool.or_eq_true, Int.not_lt, Int.not_le, ne_eq, Decidable.not_not] at hg8
   refine l_on rfl rfl hg8b ?_
   refine l_q rfl rfl (q_fieldAddr (ft := 3) (o := 1) rfl (by kernel_rfl)) ?_
   refine l_on rfl rfl hg8b ?_
   refine l_q rfl rfl (q_load1 rfl (by kernel_rfl) (hS2.cell (i := 0) rfl rfl)) ?_
   refine l_on rfl rfl hg8b ?_
   refine l_q rfl rfl (q_lss rfl rfl) ?_
   refine l_q rfl rfl (q_pickF rfl hg8b rfl) ?_
   refine l_q rfl rfl (q_moveB rfl) ?_
   refine g_splitL (t := 17) rfl (fun hg11 => ?_) (fun hg11 => ?_)
   ·
    have hg11b := hg11
    try simp only [decide_eq_true_eq, decide_eq_false_iff_not, Bool.not_eq_true', Bool.not_eq_false', Bool.and_eq_true, Bool.or_eq_true, Int.not_lt, Int.not_le, ne_eq, Decidable.not_not] at hg11
    refine l_off rfl rfl rfl hg11b ?_
    refine l_off rfl rfl rfl hg11b ?_
    refine l_off rfl rfl rfl hg11b ?_
    refine l_q rfl rfl (q_pickT rfl hg11b rfl) ?_
    refine l_q rfl rfl (q_moveB rfl) ?_
    refine l_off rfl rfl rfl rfl ?_
    refine l_off rfl rfl rfl rfl ?_
    refine l_off rfl rfl rfl rfl ?_
    refine l_q rfl rfl (q_pickT rfl rfl rfl) ?_
    refine l_q rfl rfl (q_moveB rfl) ?_
    refine l_off rfl rfl rfl rfl ?_
    refine l_off rfl rfl rfl rfl ?_
    refine l_off rfl rfl rfl rfl ?_
    refine l_q rfl rfl (q_pickT rfl rfl rfl) ?_
    refine l_q rfl rfl (q_moveB rfl) ?_
    refine l_off rfl rfl rfl rfl ?_
    refine l_off rfl rfl rfl rfl ?_
    refine l_off rfl rfl rfl rfl ?_
    refine l_q rfl rfl (q_pickT rfl rfl rfl) ?_
    refine l_q rfl rfl (q_moveB rfl) ?_
    refine l_off rfl rfl rfl rfl ?_
    refine l_off rfl rfl rfl rfl ?_
    refine l_off rfl rfl rfl rfl ?_
    refine l_q rfl rfl (q_pickT rfl rfl rfl) ?_
    refine l_nil ?_
    refine hK4 _ _ ?_
    refine c_condT rfl rfl ?_
    refine wp_seq_k (fun K13 hK13 => ?_)
    refine wp_region_lit ?_
    refine l_q rfl rfl (q_assignB rfl) ?_
    refine l_nil ?_
    refine hK13 _ _ ?_
    refine wp_ret ?_
    refine c_ret1 rfl rfl ?_
    exact ⟨_, rfl, congrArg Value.bool (rl_no (by simp only [decide_eq_true_eq, decide_eq_false_iff_not, Bool.not_eq_true', Bool.not_eq_false'] at *; omega)), hS2.drop⟩
   ·
    have hg11b := hg11
    try simp only [decide_eq_true_eq, decide_eq_false_iff_not, Bool.not_eq_true', Bool.not_eq_false', Bool.and_eq_true, Bool.or_eq_true, Int.not_lt, Int.not_le, ne_eq, Decidable.not_not] at hg11
    refine l_on rfl rfl hg11b ?_
    refine l_q rfl rfl (q_fieldAddr (ft := 3) (o := 1) rfl (by kernel_rfl)) ?_
    refine l_on rfl rfl hg11b ?_
    refine l_q rfl rfl (q_load1 rfl (by kernel_rfl) (hS2.cell (i := 0) rfl rfl)) ?_
    refine l_on rfl rfl hg11b ?_
    refine l_q rfl rfl (q_geq rfl rfl) ?_
    refine l_q rfl rfl (q_pickF rfl hg11b rfl) ?_
    refine l_q rfl rfl (q_moveB rfl) ?_
    refine g_splitL (t := 22) rfl (fun hg14 => ?_) (fun hg14 => ?_)
    ·
     have hg14b := hg14
     try simp only [decide_eq_true_eq, decide_eq_false_iff_not, Bool.not_eq_true', Bool.not_eq_false', Bool.and_eq_true, Bool.or_eq_true, Int.not_lt, Int.not_le, ne_eq, Decidable.not_not] at hg14
     refine l_off rfl rfl rfl hg14b ?_
     refine l_off rfl rfl rfl hg14b ?_
     refine l_off rfl rfl rfl hg14b ?_
     refine l_q rfl rfl (q_pickT rfl hg14b rfl) ?_
     refine l_q rfl rfl (q_moveB rfl) ?_
     refine l_off rfl rfl rfl rfl ?_
     refine l_off rfl rfl rfl rfl ?_
     refine l_off rfl rfl rfl rfl ?_
     refine l_q rfl rfl (q_pickT rfl rfl rfl) ?_
     refine l_q rfl rfl (q_moveB rfl) ?_
     refine l_off rfl rfl rfl rfl ?_
     refine l_off rfl rfl rfl rfl ?_
     refine l_off rfl rfl rfl rfl ?_
     refine l_q rfl rfl (q_pickT rfl rfl rfl) ?_
     refine l_q rfl rfl (q_moveB rfl) ?_
     refine l_off rfl rfl rfl rfl ?_
     refine l_off rfl rfl rfl rfl ?_
     refine l_off rfl rfl rfl rfl ?_
     refine l_q rfl rfl (q_pickT rfl rfl rfl) ?_
     refine l_nil ?_
     refine hK4 _ _ ?_
     refine c_condT rfl rfl ?_
     refine wp_seq_k (fun K16 hK16 => ?_)
     refine wp_region_lit ?_
     refine l_q rfl rfl (q_assignB rfl) ?_
     refine l_nil ?_
     refine hK16 _ _ ?_
     refine wp_ret ?_
     refine c_ret1 rfl rfl ?_
     exact ⟨_, rfl, congrArg Value.bool (rl_no (by simp only [decide_eq_true_eq, decide_eq_false_iff_not, Bool.not_eq_true', Bool.not_eq_false'] at *; omega)), hS2.drop⟩
    ·
     have hg14b := hg14
     try simp only [decide_eq_true_eq, decide_eq_false_iff_not, Bool.not_eq_true', Bool.not_eq_false', Bool.and_eq_true, Bool.or_eq_true, Int.not_lt, Int.not_le, ne_eq, Decidable.not_not] at hg14
     refine l_on rfl rfl hg14b ?_
     refine l_q rfl rfl (q_fieldAddr (ft := 3) (o := 2) rfl (by kernel_rfl)) ?_
     refine l_on rfl rfl hg14b ?_
     refine l_q rfl rfl (q_load1 rfl (by kernel_rfl) (hS2.cell (i := 0) rfl rfl)) ?_
     refine l_on rfl rfl hg14b ?_
     refine l_q rfl rfl (q_lss rfl rfl) ?_
     refine l_q rfl rfl (q_pickF rfl hg14b rfl) ?_
     refine l_q rfl rfl (q_moveB rfl) ?_
     refine g_splitL (t := 27) rfl (fun hg17 => ?_) (fun hg17 => ?_)
     ·
      have hg17b := hg17
      try simp only [decide_eq_true_eq, decide_eq_false_iff_not, Bool.not_eq_true', Bool.not_eq_false', Bool.and_eq_true, Bool.or_eq_true, Int.not_lt, Int.not_le, ne_eq, Decidable.not_not] at hg17
      refine l_off rfl rfl rfl hg17b ?_
      refine l_off rfl rfl rfl hg17b ?_
      refine l_off rfl rfl rfl hg17b ?_
      refine l_q rfl rfl (q_pickT rfl hg17b rfl) ?_
      refine l_q rfl rfl (q_moveB rfl) ?_
      refine l_off rfl rfl rfl rfl ?_
      refine l_off rfl rfl rfl rfl ?_
      refine l_off rfl rfl rfl rfl ?_
      refine l_q rfl rfl (q_pickT rfl rfl rfl) ?_
      refine l_q rfl rfl (q_moveB rfl) ?_
      refine l_off rfl rfl rfl rfl ?_
      refine l_off rfl rfl rfl rfl ?_
      refine l_off rfl rfl rfl rfl ?_
      refine l_q rfl rfl (q_pickT rfl rfl rfl) ?_
      refine l_nil ?_
      refine hK4 _ _ ?_
      refine c_condT rfl rfl ?_
      refine wp_seq_k (fun K19 hK19 => ?_)
      refine wp_region_lit ?_
      refine l_q rfl rfl (q_assignB rfl) ?_
      refine l_nil ?_
      refine hK19 _ _ ?_
      refine wp_ret ?_
      refine c_ret1 rfl rfl ?_
      exact ⟨_, rfl, congrArg Value.bool (rl_no (by simp only [decide_eq_true_eq, decide_eq_false_iff_not, Bool.not_eq_true', Bool.not_eq_false'] at *; omega)), hS2.drop⟩
     ·
      have hg17b := hg17
      try simp only [decide_eq_true_eq, decide_eq_false_iff_not, Bool.not_eq_true', Bool.not_eq_false', Bool.and_eq_true, Bool.or_eq_true, Int.not_lt, Int.not_le, ne_eq, Decidable.not_not] at hg17
      refine l_on rfl rfl hg17b ?_
      refine l_q rfl rfl (q_fieldAddr (ft := 3) (o := 2) rfl (by kernel_rfl)) ?_
      refine l_on rfl rfl hg17b ?_
      refine l_q rfl rfl (q_load1 rfl (by kernel_rfl) (hS2.cell (i := 0) rfl rfl)) ?_
      refine l_on rfl rfl hg17b ?_
      refine l_q rfl rfl (q_geq rfl rfl) ?_
      refine l_q rfl rfl (q_pickF rfl hg17b rfl) ?_
      refine l_q rfl rfl (q_moveB rfl) ?_
      refine g_splitL (t := 32) rfl (fun hg20 => ?_) (fun hg20 => ?_)
      ·
       have hg20b := hg20
       try simp only [decide_eq_true_eq, decide_eq_false_iff_not, Bool.not_eq_true', Bool.not_eq_false', Bool.and_eq_true, Bool.or_eq_true, Int.not_lt, Int.not_le, ne_eq, Decidable.not_not] at hg20
       refine l_off rfl rfl rfl hg20b ?_
       refine l_off rfl rfl rfl hg20b ?_
       refine l_off rfl rfl rfl hg20b ?_
       refine l_q rfl rfl (q_pickT rfl hg20b rfl) ?_
       refine l_q rfl rfl (q_moveB rfl) ?_
       refine l_off rfl rfl rfl rfl ?_
       refine l_off rfl rfl rfl rfl ?_
       refine l_off rfl rfl rfl rfl ?_
       refine l_q rfl rfl (q_pickT rfl rfl rfl) ?_
       refine l_nil ?_
       refine hK4 _ _ ?_
       refine c_condT rfl rfl ?_
       refine wp_seq_k (fun K22 hK22 => ?_)
       refine wp_region_lit ?_
       refine l_q rfl rfl (q_assignB rfl) ?_
       refine l_nil ?_
       refine hK22 _ _ ?_
       refine wp_ret ?_
       refine c_ret1 rfl rfl ?_
       exact ⟨_, rfl, congrArg Value.bool (rl_no (by simp only [decide_eq_true_eq, decide_eq_false_iff_not, Bool.not_eq_true', Bool.not_eq_false'] at *; omega)), hS2.drop⟩
      ·
       have hg20b := hg20
       try simp only [decide_eq_true_eq, decide_eq_false_iff_not, Bool.not_eq_true', Bool.not_eq_false', Bool.and_eq_true, Bool.or_eq_true, Int.not_lt, Int.not_le, ne_eq, Decidable.not_not] at hg20
       refine l_on rfl rfl hg20b ?_
       refine l_q rfl rfl (q_fieldAddr (ft := 3) (o := 3) rfl (by kernel_rfl)) ?_
       refine l_on rfl rfl hg20b ?_
       refine l_q rfl rfl (q_load1 rfl (by kernel_rfl) (hS2.cell (i := 0) rfl rfl)) ?_
       refine l_on rfl rfl hg20b ?_
       refine l_q rfl rfl (q_lss rfl rfl) ?_
       refine l_q rfl rfl (q_pickF rfl hg20b rfl) ?_
       refine l_q rfl rfl (q_moveB rfl) ?_
       refine g_splitL (t := 37) rfl (fun hg23 => ?_) (fun hg23 => ?_)
       ·
        have hg23b := hg23
        try simp only [decide_eq_true_eq, decide_eq_false_iff_not, Bool.not_eq_true', Bool.not_eq_false', Bool.and_eq_true, Bool.or_eq_true, Int.not_lt, Int.not_le, ne_eq, Decidable.not_not] at hg23
        refine l_off rfl rfl rfl hg23b ?_
        refine l_off rfl rfl rfl hg23b ?_
        refine l_off rfl rfl rfl hg23b ?_
        refine l_q rfl rfl (q_pickT rfl hg23b rfl) ?_
        refine l_nil ?_
        refine hK4 _ _ ?_
        refine c_condT rfl rfl ?_
        refine wp_seq_k (fun K25 hK25 => ?_)
        refine wp_region_lit ?_
        refine l_q rfl rfl (q_assignB rfl) ?_
        refine l_nil ?_
        refine hK25 _ _ ?_
        refine wp_ret ?_
        refine c_ret1 rfl rfl ?_
        exact ⟨_, rfl, congrArg Value.bool (rl_no (by simp only [decide_eq_true_eq, decide_eq_false_iff_not, Bool.not_eq_true', Bool.not_eq_false'] at *; omega)), hS2.drop⟩
       ·
        have hg23b := hg23
        try simp only [decide_eq_true_eq, decide_eq_false_iff_not, Bool.not_eq_true', Bool.not_eq_false', Bool.and_eq_true, Bool.or_eq_true, Int.not_lt, Int.not_le, ne_eq, Decidable.not_not] at hg23
        refine l_on rfl rfl hg23b ?_
        refine l_q rfl rfl (q_fieldAddr (ft := 3) (o := 3) rfl (by kernel_rfl)) ?_
        refine l_on rfl rfl hg23b ?_
        refine l_q rfl rfl (q_load1 rfl (by kernel_rfl) (hS2.cell (i := 0) rfl rfl)) ?_
        refine l_on rfl rfl hg23b ?_
        refine l_q rfl rfl (q_gtr rfl rfl) ?_
        refine l_q rfl rfl (q_pickF rfl hg23b rfl) ?_
        refine l_nil ?_
        refine hK4 _ _ ?_
        refine c_cond rfl (fun hc26 => ?_) (fun hc26 => ?_)
        ·
         have hc26b := hc26
         try simp only [decide_eq_true_eq, decide_eq_false_iff_not, Bool.not_eq_true', Bool.not_eq_false', Bool.and_eq_true, Bool.or_eq_true, Int.not_lt, Int.not_le, ne_eq, Decidable.not_not] at hc26
         refine wp_seq_k (fun K27 hK27 => ?_)
         refine wp_region_lit ?_
         refine l_q rfl rfl (q_assignB rfl) ?_
         refine l_nil ?_
         refine hK27 _ _ ?_
         refine wp_ret ?_
         refine c_ret1 rfl rfl ?_
         exact ⟨_, rfl, congrArg Value.bool (rl_no (by simp only [decide_eq_true_eq, decide_eq_false_iff_not, Bool.not_eq_true', Bool.not_eq_false'] at *; omega)), hS2.drop⟩
        ·
         have hc26b := hc26
         try simp only [decide_eq_true_eq, decide_eq_false_iff_not, Bool.not_eq_true', Bool.not_eq_false', Bool.and_eq_true, Bool.or_eq_true, Int.not_lt, Int.not_le, ne_eq, Decidable.not_not] at hc26
         refine wp_skip ?_
         refine hK3 _ _ ?_
         refine wp_seq_k (fun K28 hK28 => ?_)
         refine wp_seq_k (fun K29 hK29 => ?_)
         refine wp_region_lit ?_
         refine l_q rfl rfl (q_assignI rfl) ?_
         refine l_nil ?_
         refine hK29 _ _ ?_
         refine wp_block ?_
         refine c_loop (τ := Nat) [(2, 3), (42, 80)] (fun x => (fun (i : Nat) => [(3, .int .i64 (i : Int))]) x) (fun x w' => (fun (i : Nat) => St w (fun _ => False) [.blk b2 (.cells #[.int .i64 l.k, .int .i64 l.f, .int .i64 l.t, .int .i64 l.x, .slice an l.nd.length cn] 25)] w' ∧ i ≤ l.nd.length ∧ okTo l.nd i) x) (fun x => (fun (i : Nat) => l.nd.length - i) x) (0) ?_ (by repeat' (first | exact trivial | refine ⟨by first | rfl | exact int_succ _ | assumption, ?_⟩)) (fun i j30 w30 hJ30 K30 hK30 => ?_)
         ·
          exact ⟨hS2, Nat.zero_le _, okTo.zero _⟩
         ·
          obtain ⟨hS30, hi, hk⟩ := hJ30
          try dsimp only at hS30 hi hk ⊢
          have hl0 : i = 0 → lastN l.nd i = -1 := fun h => by rw [h]; exact lastN_zero _
          refine wp_seq_k (fun K31 hK31 => ?_)
          refine wp_seq_k (fun K32 hK32 => ?_)
          refine wp_region_lit ?_
          refine l_q rfl rfl (q_moveI rfl) ?_
          refine l_q rfl rfl (q_fieldAddr (ft := 23) (o := 4) rfl (by kernel_rfl)) ?_
          refine l_q rfl rfl (q_load1 rfl (by kernel_rfl) (hS30.cell (i := 0) rfl rfl)) ?_
          refine l_q rfl rfl (q_lenSl (e := 3) rfl (by kernel_rfl)) ?_
          refine l_q rfl rfl (q_lss rfl rfl) ?_
          refine l_nil ?_
          refine hK32 _ _ ?_
          refine c_cond rfl (fun hc33 => ?_) (fun hc33 => ?_)
          ·
           have hc33b := hc33
           try simp only [decide_eq_true_eq, decide_eq_false_iff_not, Bool.not_eq_true', Bool.not_eq_false', Bool.and_eq_true, Bool.or_eq_true, Int.not_lt, Int.not_le, ne_eq, Decidable.not_not] at hc33
           refine wp_skip ?_
           refine hK31 _ _ ?_
           refine wp_seq_k (fun K34 hK34 => ?_)
           refine wp_block ?_
           refine wp_seq_k (fun K35 hK35 => ?_)
           refine r_any (by kernel_rfl) hS30 (fun w36 hS36 => ?_)
           clear hS30
           refine o_pure (i := 0) (fun _ _ => trivial) rfl rfl (by kernel_rfl) (goes0 rfl) (QOk.then (QOk.inBlock (QOk.then (QOk.then (QOk.inBlock (QOk.then QOk.body)))))) (fun w => q_fieldAddr (ft := 23) (o := 4) rfl (by kernel_rfl)) ?_
           refine o_held (i := 1) [3, 4, 5, 6, 7, 8, 9, 10, 11, 12, 13, 14, 15, 16, 17, 18, 19, 20, 21, 22, 23, 24, 25, 26, 27, 28, 29, 30, 31] (fun _ _ => trivial) rfl rfl (by kernel_rfl) (goes0 rfl) (QOk.then (QOk.inBlock (QOk.then (QOk.then (QOk.inBlock (QOk.then QOk.body)))))) (q_load1 rfl (by kernel_rfl) (hS36.cell (i := 0) rfl rfl)) ?_
           refine o_pure (i := 2) (fun j w => ⟨(fun _ _ => trivial) j w, fun _ h => h⟩) rfl rfl (by kernel_rfl) (goes0 rfl) (QOk.then (QOk.inBlock (QOk.then (QOk.then (QOk.inBlock (QOk.then QOk.body)))))) (fun w => q_moveI rfl) ?_
           refine o_pure (i := 3) (fun j w => ⟨(fun _ _ => trivial) j w, fun _ h => h⟩) rfl rfl (by kernel_rfl) (goes0 rfl) (QOk.then (QOk.inBlock (QOk.then (QOk.then (QOk.inBlock (QOk.then QOk.body)))))) (fun w => q_ixG (e := 3) (m := 1) (j := i) rfl rfl (by kernel_rfl) (by kernel_rfl) (by first | rfl | omega) (by omega) hG (by rw [iv_len]; first | omega | (simp only [List.length_append, List.length_map, List.length_cons, List.length_nil, List.length_take, List.length_drop, List.length_set] <;> omega))) ?_
           obtain ⟨x37, hx37⟩ : ∃ x, (l.nd)[i]? = some x := ⟨_, List.getElem?_eq_getElem (by first | omega | (simp only [List.length_append, List.length_map, List.length_cons, List.length_nil, List.length_take, List.length_drop, List.length_set] <;> omega) | (simp <;> omega))⟩
           refine o_held (i := 4) [5, 6, 7, 8, 9, 10, 11, 12, 13, 14, 15, 16, 17, 18, 19, 20, 21, 22, 23, 24, 25, 26, 27, 28, 29, 30, 31] (fun j w => ⟨(fun _ _ => trivial) j w, fun _ h => h⟩) rfl rfl (by kernel_rfl) (goes0 rfl) (QOk.then (QOk.inBlock (QOk.then (QOk.then (QOk.inBlock (QOk.then QOk.body)))))) (q_load1 rfl (by kernel_rfl) (SlG.cell (hG.mono hS36.base) (Gle.refl _) (at1 (iv_at hx37)))) ?_
           refine o_pure (i := 5) (fun j w => ⟨(fun j w => ⟨(fun _ _ => trivial) j w, fun _ h => h⟩) j w, fun _ h => h⟩) rfl rfl (by kernel_rfl) (goes0 rfl) (QOk.then (QOk.inBlock (QOk.then (QOk.then (QOk.inBlock (QOk.then QOk.body)))))) (fun w => q_lss rfl rfl) ?_
           refine o_pure (i := 6) (fun j w => ⟨(fun j w => ⟨(fun _ _ => trivial) j w, fun _ h => h⟩) j w, fun _ h => h⟩) rfl rfl (by kernel_rfl) (goes0 rfl) (QOk.then (QOk.inBlock (QOk.then (QOk.then (QOk.inBlock (QOk.then QOk.body)))))) (fun w => q_moveB rfl) ?_
           refine g_splitO (t := 55) rfl (fun hg38 => ?_) (fun hg38 => ?_)
           ·
            have hg38b := hg38
            try simp only [decide_eq_true_eq, decide_eq_false_iff_not, Bool.not_eq_true', Bool.not_eq_false', Bool.and_eq_true, Bool.or_eq_true, Int.not_lt, Int.not_le, ne_eq, Decidable.not_not] at hg38
            refine o_off (i := 7) (fun j w => ⟨(fun j w => ⟨(fun _ _ => trivial) j w, fun _ h => h⟩) j w, fun _ h => h⟩) rfl rfl (by kernel_rfl) rfl rfl hg38b (QOk.then (QOk.inBlock (QOk.then (QOk.then (QOk.inBlock (QOk.then QOk.body)))))) ?_
            refine o_off (i := 8) (fun j w => ⟨(fun j w => ⟨(fun _ _ => trivial) j w, fun _ h => h⟩) j w, fun _ h => h⟩) rfl rfl (by kernel_rfl) rfl rfl hg38b (QOk.then (QOk.inBlock (QOk.then (QOk.then (QOk.inBlock (QOk.then QOk.body)))))) ?_
            refine o_off (i := 9) (fun j w => ⟨(fun j w => ⟨(fun _ _ => trivial) j w, fun _ h => h⟩) j w, fun _ h => h⟩) rfl rfl (by kernel_rfl) rfl rfl hg38b (QOk.then (QOk.inBlock (QOk.then (QOk.then (QOk.inBlock (QOk.then QOk.body)))))) ?_
            refine o_off (i := 10) (fun j w => ⟨(fun j w => ⟨(fun _ _ => trivial) j w, fun _ h => h⟩) j w, fun _ h => h⟩) rfl rfl (by kernel_rfl) rfl rfl hg38b (QOk.then (QOk.inBlock (QOk.then (QOk.then (QOk.inBlock (QOk.then QOk.body)))))) ?_
            refine o_off (i := 11) (fun j w => ⟨(fun j w => ⟨(fun _ _ => trivial) j w, fun _ h => h⟩) j w, fun _ h => h⟩) rfl rfl (by kernel_rfl) rfl rfl hg38b (QOk.then (QOk.inBlock (QOk.then (QOk.then (QOk.inBlock (QOk.then QOk.body)))))) ?_
            refine o_off (i := 12) (fun j w => ⟨(fun j w => ⟨(fun _ _ => trivial) j w, fun _ h => h⟩) j w, fun _ h => h⟩) rfl rfl (by kernel_rfl) rfl rfl hg38b (QOk.then (QOk.inBlock (QOk.then (QOk.then (QOk.inBlock (QOk.then QOk.body)))))) ?_
            refine o_pure (i := 13) (fun j w => ⟨(fun j w => ⟨(fun _ _ => trivial) j w, fun _ h => h⟩) j w, fun _ h => h⟩) rfl rfl (by kernel_rfl) (goes0 rfl) (QOk.then (QOk.inBlock (QOk.then (QOk.then (QOk.inBlock (QOk.then QOk.body)))))) (fun w => q_pickT rfl hg38b rfl) ?_
            refine o_pure (i := 14) (fun j w => ⟨(fun j w => ⟨(fun _ _ => trivial) j w, fun _ h => h⟩) j w, fun _ h => h⟩) rfl rfl (by kernel_rfl) (goes0 rfl) (QOk.then (QOk.inBlock (QOk.then (QOk.then (QOk.inBlock (QOk.then QOk.body)))))) (fun w => q_moveB rfl) ?_
            refine o_off (i := 15) (fun j w => ⟨(fun j w => ⟨(fun _ _ => trivial) j w, fun _ h => h⟩) j w, fun _ h => h⟩) rfl rfl (by kernel_rfl) rfl rfl rfl (QOk.then (QOk.inBlock (QOk.then (QOk.then (QOk.inBlock (QOk.then QOk.body)))))) ?_
            refine o_off (i := 16) (fun j w => ⟨(fun j w => ⟨(fun _ _ => trivial) j w, fun _ h => h⟩) j w, fun _ h => h⟩) rfl rfl (by kernel_rfl) rfl rfl rfl (QOk.then (QOk.inBlock (QOk.then (QOk.then (QOk.inBlock (QOk.then QOk.body)))))) ?_
            refine o_off (i := 17) (fun j w => ⟨(fun j w => ⟨(fun _ _ => trivial) j w, fun _ h => h⟩) j w, fun _ h => h⟩) rfl rfl (by kernel_rfl) rfl rfl rfl (QOk.then (QOk.inBlock (QOk.then (QOk.then (QOk.inBlock (QOk.then QOk.body)))))) ?_
            refine o_offN (i := 18) (fun j w => ⟨(fun j w => ⟨(fun _ _ => trivial) j w, fun _ h => h⟩) j w, fun _ h => h⟩) rfl rfl (by kernel_rfl) rfl rfl (QOk.then (QOk.inBlock (QOk.then (QOk.then (QOk.inBlock (QOk.then QOk.body)))))) ?_
            refine o_offN (i := 19) (fun j w => ⟨(fun j w => ⟨(fun _ _ => trivial) j w, fun _ h => h⟩) j w, fun _ h => h⟩) rfl rfl (by kernel_rfl) rfl rfl (QOk.then (QOk.inBlock (QOk.then (QOk.then (QOk.inBlock (QOk.then QOk.body)))))) ?_
            refine o_offN (i := 20) (fun j w => ⟨(fun j w => ⟨(fun _ _ => trivial) j w, fun _ h => h⟩) j w, fun _ h => h⟩) rfl rfl (by kernel_rfl) rfl rfl (QOk.then (QOk.inBlock (QOk.then (QOk.then (QOk.inBlock (QOk.then QOk.body)))))) ?_
            refine o_offN (i := 21) (fun j w => ⟨(fun j w => ⟨(fun _ _ => trivial) j w, fun _ h => h⟩) j w, fun _ h => h⟩) rfl rfl (by kernel_rfl) rfl rfl (QOk.then (QOk.inBlock (QOk.then (QOk.then (QOk.inBlock (QOk.then QOk.body)))))) ?_
            refine o_offN (i := 22) (fun j w => ⟨(fun j w => ⟨(fun _ _ => trivial) j w, fun _ h => h⟩) j w, fun _ h => h⟩) rfl rfl (by kernel_rfl) rfl rfl (QOk.then (QOk.inBlock (QOk.then (QOk.then (QOk.inBlock (QOk.then QOk.body)))))) ?_
            refine o_offN (i := 23) (fun j w => ⟨(fun j w => ⟨(fun _ _ => trivial) j w, fun _ h => h⟩) j w, fun _ h => h⟩) rfl rfl (by kernel_rfl) rfl rfl (QOk.then (QOk.inBlock (QOk.then (QOk.then (QOk.inBlock (QOk.then QOk.body)))))) ?_
            refine o_offN (i := 24) (fun j w => ⟨(fun j w => ⟨(fun _ _ => trivial) j w, fun _ h => h⟩) j w, fun _ h => h⟩) rfl rfl (by kernel_rfl) rfl rfl (QOk.then (QOk.inBlock (QOk.then (QOk.then (QOk.inBlock (QOk.then QOk.body)))))) ?_
            refine o_offN (i := 25) (fun j w => ⟨(fun j w => ⟨(fun _ _ => trivial) j w, fun _ h => h⟩) j w, fun _ h => h⟩) rfl rfl (by kernel_rfl) rfl rfl (QOk.then (QOk.inBlock (QOk.then (QOk.then (QOk.inBlock (QOk.then QOk.body)))))) ?_
            refine o_offN (i := 26) (fun j w => ⟨(fun j w => ⟨(fun _ _ => trivial) j w, fun _ h => h⟩) j w, fun _ h => h⟩) rfl rfl (by kernel_rfl) rfl rfl (QOk.then (QOk.inBlock (QOk.then (QOk.then (QOk.inBlock (QOk.then QOk.body)))))) ?_
            refine o_offN (i := 27) (fun j w => ⟨(fun j w => ⟨(fun _ _ => trivial) j w, fun _ h => h⟩) j w, fun _ h => h⟩) rfl rfl (by kernel_rfl) rfl rfl (QOk.then (QOk.inBlock (QOk.then (QOk.then (QOk.inBlock (QOk.then QOk.body)))))) ?_
            refine o_offN (i := 28) (fun j w => ⟨(fun j w => ⟨(fun _ _ => trivial) j w, fun _ h => h⟩) j w, fun _ h => h⟩) rfl rfl (by kernel_rfl) rfl rfl (QOk.then (QOk.inBlock (QOk.then (QOk.then (QOk.inBlock (QOk.then QOk.body)))))) ?_
            refine o_offN (i := 29) (fun j w => ⟨(fun j w => ⟨(fun _ _ => trivial) j w, fun _ h => h⟩) j w, fun _ h => h⟩) rfl rfl (by kernel_rfl) rfl rfl (QOk.then (QOk.inBlock (QOk.then (QOk.then (QOk.inBlock (QOk.then QOk.body)))))) ?_
            refine o_off (i := 30) (fun j w => ⟨(fun j w => ⟨(fun _ _ => trivial) j w, fun _ h => h⟩) j w, fun _ h => h⟩) rfl rfl (by kernel_rfl) rfl rfl rfl (QOk.then (QOk.inBlock (QOk.then (QOk.then (QOk.inBlock (QOk.then QOk.body)))))) ?_
            refine o_pure (i := 31) (fun j w => ⟨(fun j w => ⟨(fun _ _ => trivial) j w, fun _ h => h⟩) j w, fun _ h => h⟩) rfl rfl (by kernel_rfl) (goes0 rfl) (QOk.then (QOk.inBlock (QOk.then (QOk.then (QOk.inBlock (QOk.then QOk.body)))))) (fun w => q_pickT rfl rfl rfl) ?_
            refine o_done (by kernel_rfl) ?_
            refine hK35 _ _ ?_
            refine c_condT rfl rfl ?_
            refine wp_seq_k (fun K40 hK40 => ?_)
            refine wp_region_lit ?_
            refine l_q rfl rfl (q_assignB rfl) ?_
            refine l_nil ?_
            refine hK40 _ _ ?_
            refine wp_ret ?_
            refine c_ret1 rfl rfl ?_
            exact ⟨_, rfl, congrArg Value.bool (bad_right (okTo_bad hx37 (by simp only [decide_eq_true_eq, decide_eq_false_iff_not] at *; omega))), hS36.drop⟩
           ·
            have hg38b := hg38
            try simp only [decide_eq_true_eq, decide_eq_false_iff_not, Bool.not_eq_true', Bool.not_eq_false', Bool.and_eq_true, Bool.or_eq_true, Int.not_lt, Int.not_le, ne_eq, Decidable.not_not] at hg38
            refine o_pure (i := 7) (fun j w => ⟨(fun j w => ⟨(fun _ _ => trivial) j w, fun _ h => h⟩) j w, fun _ h => h⟩) rfl rfl (by kernel_rfl) (goes1 rfl rfl hg38b) (QOk.then (QOk.inBlock (QOk.then (QOk.then (QOk.inBlock (QOk.then QOk.body)))))) (fun w => q_fieldAddr (ft := 23) (o := 4) rfl (by kernel_rfl)) ?_
            refine o_held (i := 8) [10, 11, 12, 13, 14, 15, 16, 17, 18, 19, 20, 21, 22, 23, 24, 25, 26, 27, 28, 29, 30, 31] (fun j w => ⟨(fun j w => ⟨(fun _ _ => trivial) j w, fun _ h => h⟩) j w, fun _ h => h⟩) rfl rfl (by kernel_rfl) (goes1 rfl rfl hg38b) (QOk.then (QOk.inBlock (QOk.then (QOk.then (QOk.inBlock (QOk.then QOk.body)))))) (q_load1 rfl (by kernel_rfl) (hS36.cell (i := 0) rfl rfl)) ?_
            refine o_pure (i := 9) (fun j w => ⟨(fun j w => ⟨(fun j w => ⟨(fun _ _ => trivial) j w, fun _ h => h⟩) j w, fun _ h => h⟩) j w, fun _ h => h⟩) rfl rfl (by kernel_rfl) (goes1 rfl rfl hg38b) (QOk.then (QOk.inBlock (QOk.then (QOk.then (QOk.inBlock (QOk.then QOk.body)))))) (fun w => q_moveI rfl) ?_
            refine o_pure (i := 10) (fun j w => ⟨(fun j w => ⟨(fun j w => ⟨(fun _ _ => trivial) j w, fun _ h => h⟩) j w, fun _ h => h⟩) j w, fun _ h => h⟩) rfl rfl (by kernel_rfl) (goes1 rfl rfl hg38b) (QOk.then (QOk.inBlock (QOk.then (QOk.then (QOk.inBlock (QOk.then QOk.body)))))) (fun w => q_ixG (e := 3) (m := 1) (j := i) rfl rfl (by kernel_rfl) (by kernel_rfl) (by first | rfl | omega) (by omega) hG (by rw [iv_len]; first | omega | (simp only [List.length_append, List.length_map, List.length_cons, List.length_nil, List.length_take, List.length_drop, List.length_set] <;> omega))) ?_
            refine o_held (i := 11) [12, 13, 14, 15, 16, 17, 18, 19, 20, 21, 22, 23, 24, 25, 26, 27, 28, 29, 30, 31] (fun j w => ⟨(fun j w => ⟨(fun j w => ⟨(fun _ _ => trivial) j w, fun _ h => h⟩) j w, fun _ h => h⟩) j w, fun _ h => h⟩) rfl rfl (by kernel_rfl) (goes1 rfl rfl hg38b) (QOk.then (QOk.inBlock (QOk.then (QOk.then (QOk.inBlock (QOk.then QOk.body)))))) (q_load1 rfl (by kernel_rfl) (SlG.cell (hG.mono hS36.base) (Gle.refl _) (at1 (iv_at hx37)))) ?_
            refine o_pure (i := 12) (fun j w => ⟨(fun j w => ⟨(fun j w => ⟨(fun j w => ⟨(fun _ _ => trivial) j w, fun _ h => h⟩) j w, fun _ h => h⟩) j w, fun _ h => h⟩) j w, fun _ h => h⟩) rfl rfl (by kernel_rfl) (goes1 rfl rfl hg38b) (QOk.then (QOk.inBlock (QOk.then (QOk.then (QOk.inBlock (QOk.then QOk.body)))))) (fun w => q_geq rfl rfl) ?_
            refine o_pure (i := 13) (fun j w => ⟨(fun j w => ⟨(fun j w => ⟨(fun j w => ⟨(fun _ _ => trivial) j w, fun _ h => h⟩) j w, fun _ h => h⟩) j w, fun _ h => h⟩) j w, fun _ h => h⟩) rfl rfl (by kernel_rfl) (goes0 rfl) (QOk.then (QOk.inBlock (QOk.then (QOk.then (QOk.inBlock (QOk.then QOk.body)))))) (fun w => q_pickF rfl hg38b rfl) ?_
            refine o_pure (i := 14) (fun j w => ⟨(fun j w => ⟨(fun j w => ⟨(fun j w => ⟨(fun _ _ => trivial) j w, fun _ h => h⟩) j w, fun _ h => h⟩) j w, fun _ h => h⟩) j w, fun _ h => h⟩) rfl rfl (by kernel_rfl) (goes0 rfl) (QOk.then (QOk.inBlock (QOk.then (QOk.then (QOk.inBlock (QOk.then QOk.body)))))) (fun w => q_moveB rfl) ?_
            refine g_splitO (t := 63) rfl (fun hg41 => ?_) (fun hg41 => ?_)
            ·
             have hg41b := hg41
             try simp only [decide_eq_true_eq, decide_eq_false_iff_not, Bool.not_eq_true', Bool.not_eq_false', Bool.and_eq_true, Bool.or_eq_true, Int.not_lt, Int.not_le, ne_eq, Decidable.not_not] at hg41
             refine o_off (i := 15) (fun j w => ⟨(fun j w => ⟨(fun j w => ⟨(fun j w => ⟨(fun _ _ => trivial) j w, fun _ h => h⟩) j w, fun _ h => h⟩) j w, fun _ h => h⟩) j w, fun _ h => h⟩) rfl rfl (by kernel_rfl) rfl rfl hg41b (QOk.then (QOk.inBlock (QOk.then (QOk.then (QOk.inBlock (QOk.then QOk.body)))))) ?_
             refine o_off (i := 16) (fun j w => ⟨(fun j w => ⟨(fun j w => ⟨(fun j w => ⟨(fun _ _ => trivial) j w, fun _ h => h⟩) j w, fun _ h => h⟩) j w, fun _ h => h⟩) j w, fun _ h => h⟩) rfl rfl (by kernel_rfl) rfl rfl hg41b (QOk.then (QOk.inBlock (QOk.then (QOk.then (QOk.inBlock (QOk.then QOk.body)))))) ?_
             refine o_off (i := 17) (fun j w => ⟨(fun j w => ⟨(fun j w => ⟨(fun j w => ⟨(fun _ _ => trivial) j w, fun _ h => h⟩) j w, fun _ h => h⟩) j w, fun _ h => h⟩) j w, fun _ h => h⟩) rfl rfl (by kernel_rfl) rfl rfl hg41b (QOk.then (QOk.inBlock (QOk.then (QOk.then (QOk.inBlock (QOk.then QOk.body)))))) ?_
             refine o_offN (i := 18) (fun j w => ⟨(fun j w => ⟨(fun j w => ⟨(fun j w => ⟨(fun _ _ => trivial) j w, fun _ h => h⟩) j w, fun _ h => h⟩) j w, fun _ h => h⟩) j w, fun _ h => h⟩) rfl rfl (by kernel_rfl) rfl rfl (QOk.then (QOk.inBlock (QOk.then (QOk.then (QOk.inBlock (QOk.then QOk.body)))))) ?_
             refine o_offN (i := 19) (fun j w => ⟨(fun j w => ⟨(fun j w => ⟨(fun j w => ⟨(fun _ _ => trivial) j w, fun _ h => h⟩) j w, fun _ h => h⟩) j w, fun _ h => h⟩) j w, fun _ h => h⟩) rfl rfl (by kernel_rfl) rfl rfl (QOk.then (QOk.inBlock (QOk.then (QOk.then (QOk.inBlock (QOk.then QOk.body)))))) ?_
             refine o_offN (i := 20) (fun j w => ⟨(fun j w => ⟨(fun j w => ⟨(fun j w => ⟨(fun _ _ => trivial) j w, fun _ h => h⟩) j w, fun _ h => h⟩) j w, fun _ h => h⟩) j w, fun _ h => h⟩) rfl rfl (by kernel_rfl) rfl rfl (QOk.then (QOk.inBlock (QOk.then (QOk.then (QOk.inBlock (QOk.then QOk.body)))))) ?_
             refine o_offN (i := 21) (fun j w => ⟨(fun j w => ⟨(fun j w => ⟨(fun j w => ⟨(fun _ _ => trivial) j w, fun _ h => h⟩) j w, fun _ h => h⟩) j w, fun _ h => h⟩) j w, fun _ h => h⟩) rfl rfl (by kernel_rfl) rfl rfl (QOk.then (QOk.inBlock (QOk.then (QOk.then (QOk.inBlock (QOk.then QOk.body)))))) ?_
             refine o_offN (i := 22) (fun j w => ⟨(fun j w => ⟨(fun j w => ⟨(fun j w => ⟨(fun _ _ => trivial) j w, fun _ h => h⟩) j w, fun _ h => h⟩) j w, fun _ h => h⟩) j w, fun _ h => h⟩) rfl rfl (by kernel_rfl) rfl rfl (QOk.then (QOk.inBlock (QOk.then (QOk.then (QOk.inBlock (QOk.then QOk.body)))))) ?_
             refine o_offN (i := 23) (fun j w => ⟨(fun j w => ⟨(fun j w => ⟨(fun j w => ⟨(fun _ _ => trivial) j w, fun _ h => h⟩) j w, fun _ h => h⟩) j w, fun _ h => h⟩) j w, fun _ h => h⟩) rfl rfl (by kernel_rfl) rfl rfl (QOk.then (QOk.inBlock (QOk.then (QOk.then (QOk.inBlock (QOk.then QOk.body)))))) ?_
             refine o_offN (i := 24) (fun j w => ⟨(fun j w => ⟨(fun j w => ⟨(fun j w => ⟨(fun _ _ => trivial) j w, fun _ h => h⟩) j w, fun _ h => h⟩) j w, fun _ h => h⟩) j w, fun _ h => h⟩) rfl rfl (by kernel_rfl) rfl rfl (QOk.then (QOk.inBlock (QOk.then (QOk.then (QOk.inBlock (QOk.then QOk.body)))))) ?_
             refine o_offN (i := 25) (fun j w => ⟨(fun j w => ⟨(fun j w => ⟨(fun j w => ⟨(fun _ _ => trivial) j w, fun _ h => h⟩) j w, fun _ h => h⟩) j w, fun _ h => h⟩) j w, fun _ h => h⟩) rfl rfl (by kernel_rfl) rfl rfl (QOk.then (QOk.inBlock (QOk.then (QOk.then (QOk.inBlock (QOk.then QOk.body)))))) ?_
             refine o_offN (i := 26) (fun j w => ⟨(fun j w => ⟨(fun j w => ⟨(fun j w => ⟨(fun _ _ => trivial) j w, fun _ h => h⟩) j w, fun _ h => h⟩) j w, fun _ h => h⟩) j w, fun _ h => h⟩) rfl rfl (by kernel_rfl) rfl rfl (QOk.then (QOk.inBlock (QOk.then (QOk.then (QOk.inBlock (QOk.then QOk.body)))))) ?_
             refine o_offN (i := 27) (fun j w => ⟨(fun j w => ⟨(fun j w => ⟨(fun j w => ⟨(fun _ _ => trivial) j w, fun _ h => h⟩) j w, fun _ h => h⟩) j w, fun _ h => h⟩) j w, fun _ h => h⟩) rfl rfl (by kernel_rfl) rfl rfl (QOk.then (QOk.inBlock (QOk.then (QOk.then (QOk.inBlock (QOk.then QOk.body)))))) ?_
             refine o_offN (i := 28) (fun j w => ⟨(fun j w => ⟨(fun j w => ⟨(fun j w => ⟨(fun _ _ => trivial) j w, fun _ h => h⟩) j w, fun _ h => h⟩) j w, fun _ h => h⟩) j w, fun _ h => h⟩) rfl rfl (by kernel_rfl) rfl rfl (QOk.then (QOk.inBlock (QOk.then (QOk.then (QOk.inBlock (QOk.then QOk.body)))))) ?_
             refine o_offN (i := 29) (fun j w => ⟨(fun j w => ⟨(fun j w => ⟨(fun j w => ⟨(fun _ _ => trivial) j w, fun _ h => h⟩) j w, fun _ h => h⟩) j w, fun _ h => h⟩) j w, fun _ h => h⟩) rfl rfl (by kernel_rfl) rfl rfl (QOk.then (QOk.inBlock (QOk.then (QOk.then (QOk.inBlock (QOk.then QOk.body)))))) ?_
             refine o_off (i := 30) (fun j w => ⟨(fun j w => ⟨(fun j w => ⟨(fun j w => ⟨(fun _ _ => trivial) j w, fun _ h => h⟩) j w, fun _ h => h⟩) j w, fun _ h => h⟩) j w, fun _ h => h⟩) rfl rfl (by kernel_rfl) rfl rfl hg41b (QOk.then (QOk.inBlock (QOk.then (QOk.then (QOk.inBlock (QOk.then QOk.body)))))) ?_
             refine o_pure (i := 31) (fun j w => ⟨(fun j w => ⟨(fun j w => ⟨(fun j w => ⟨(fun _ _ => trivial) j w, fun _ h => h⟩) j w, fun _ h => h⟩) j w, fun _ h => h⟩) j w, fun _ h => h⟩) rfl rfl (by kernel_rfl) (goes0 rfl) (QOk.then (QOk.inBlock (QOk.then (QOk.then (QOk.inBlock (QOk.then QOk.body)))))) (fun w => q_pickT rfl hg41b rfl) ?_
             refine o_done (by kernel_rfl) ?_
             refine hK35 _ _ ?_
             refine c_condT rfl rfl ?_
             refine wp_seq_k (fun K43 hK43 => ?_)
             refine wp_region_lit ?_
             refine l_q rfl rfl (q_assignB rfl) ?_
             refine l_nil ?_
             refine hK43 _ _ ?_
             refine wp_ret ?_
             refine c_ret1 rfl rfl ?_
             exact ⟨_, rfl, congrArg Value.bool (bad_right (okTo_bad hx37 (by simp only [decide_eq_true_eq, decide_eq_false_iff_not] at *; omega))), hS36.drop⟩
            ·
             have hg41b := hg41
             try simp only [decide_eq_true_eq, decide_eq_false_iff_not, Bool.not_eq_true', Bool.not_eq_false', Bool.and_eq_true, Bool.or_eq_true, Int.not_lt, Int.not_le, ne_eq, Decidable.not_not] at hg41
             refine o_pure (i := 15) (fun j w => ⟨(fun j w => ⟨(fun j w => ⟨(fun j w => ⟨(fun _ _ => trivial) j w, fun _ h => h⟩) j w, fun _ h => h⟩) j w, fun _ h => h⟩) j w, fun _ h => h⟩) rfl rfl (by kernel_rfl) (goes1 rfl rfl hg41b) (QOk.then (QOk.inBlock (QOk.then (QOk.then (QOk.inBlock (QOk.then QOk.body)))))) (fun w => q_moveI rfl) ?_
             refine o_pure (i := 16) (fun j w => ⟨(fun j w => ⟨(fun j w => ⟨(fun j w => ⟨(fun _ _ => trivial) j w, fun _ h => h⟩) j w, fun _ h => h⟩) j w, fun _ h => h⟩) j w, fun _ h => h⟩) rfl rfl (by kernel_rfl) (goes1 rfl rfl hg41b) (QOk.then (QOk.inBlock (QOk.then (QOk.then (QOk.inBlock (QOk.then QOk.body)))))) (fun w => q_gtr rfl rfl) ?_
             refine o_pure (i := 17) (fun j w => ⟨(fun j w => ⟨(fun j w => ⟨(fun j w => ⟨(fun _ _ => trivial) j w, fun _ h => h⟩) j w, fun _ h => h⟩) j w, fun _ h => h⟩) j w, fun _ h => h⟩) rfl rfl (by kernel_rfl) (goes1 rfl rfl hg41b) (QOk.then (QOk.inBlock (QOk.then (QOk.then (QOk.inBlock (QOk.then QOk.body)))))) (fun w => q_moveB rfl) ?_
             refine g_splitO (t := 66) rfl (fun hg44 => ?_) (fun hg44 => ?_)
             ·
              have hg44b := hg44
              try simp only [decide_eq_true_eq, decide_eq_false_iff_not, Bool.not_eq_true', Bool.not_eq_false', Bool.and_eq_true, Bool.or_eq_true, Int.not_lt, Int.not_le, ne_eq, Decidable.not_not] at hg44
              refine o_pure (i := 18) (fun j w => ⟨(fun j w => ⟨(fun j w => ⟨(fun j w => ⟨(fun _ _ => trivial) j w, fun _ h => h⟩) j w, fun _ h => h⟩) j w, fun _ h => h⟩) j w, fun _ h => h⟩) rfl rfl (by kernel_rfl) (goes1 rfl rfl hg44b) (QOk.then (QOk.inBlock (QOk.then (QOk.then (QOk.inBlock (QOk.then QOk.body)))))) (fun w => q_fieldAddr (ft := 23) (o := 4) rfl (by kernel_rfl)) ?_
              refine o_held (i := 19) [22, 23, 29, 30, 31] (fun j w => ⟨(fun j w => ⟨(fun j w => ⟨(fun j w => ⟨(fun _ _ => trivial) j w, fun _ h => h⟩) j w, fun _ h => h⟩) j w, fun _ h => h⟩) j w, fun _ h => h⟩) rfl rfl (by kernel_rfl) (goes1 rfl rfl hg44b) (QOk.then (QOk.inBlock (QOk.then (QOk.then (QOk.inBlock (QOk.then QOk.body)))))) (q_load1 rfl (by kernel_rfl) (hS36.cell (i := 0) rfl rfl)) ?_
              refine o_pure (i := 20) (fun j w => ⟨(fun j w => ⟨(fun j w => ⟨(fun j w => ⟨(fun j w => ⟨(fun _ _ => trivial) j w, fun _ h => h⟩) j w, fun _ h => h⟩) j w, fun _ h => h⟩) j w, fun _ h => h⟩) j w, fun _ h => h⟩) rfl rfl (by kernel_rfl) (goes1 rfl rfl hg44b) (QOk.then (QOk.inBlock (QOk.then (QOk.then (QOk.inBlock (QOk.then QOk.body)))))) (fun w => q_moveI rfl) ?_
              refine o_pure (i := 21) (fun j w => ⟨(fun j w => ⟨(fun j w => ⟨(fun j w => ⟨(fun j w => ⟨(fun _ _ => trivial) j w, fun _ h => h⟩) j w, fun _ h => h⟩) j w, fun _ h => h⟩) j w, fun _ h => h⟩) j w, fun _ h => h⟩) rfl rfl (by kernel_rfl) (goes1 rfl rfl hg44b) (QOk.then (QOk.inBlock (QOk.then (QOk.then (QOk.inBlock (QOk.then QOk.body)))))) (fun w => q_subx rfl rfl (by first | decide | omega) (by first | decide | omega)) ?_
              refine o_pure (i := 22) (fun j w => ⟨(fun j w => ⟨(fun j w => ⟨(fun j w => ⟨(fun j w => ⟨(fun _ _ => trivial) j w, fun _ h => h⟩) j w, fun _ h => h⟩) j w, fun _ h => h⟩) j w, fun _ h => h⟩) j w, fun _ h => h⟩) rfl rfl (by kernel_rfl) (goes1 rfl rfl hg44b) (QOk.then (QOk.inBlock (QOk.then (QOk.then (QOk.inBlock (QOk.then QOk.body)))))) (fun w => q_ixG (e := 3) (m := 1) (j := (i - 1)) rfl rfl (by kernel_rfl) (by kernel_rfl) (by first | rfl | omega) (by omega) hG (by rw [iv_len]; first | omega | (simp only [List.length_append, List.length_map, List.length_cons, List.length_nil, List.length_take, List.length_drop, List.length_set] <;> omega))) ?_
              obtain ⟨x45, hx45⟩ : ∃ x, (l.nd)[(i - 1)]? = some x := ⟨_, List.getElem?_eq_getElem (by first | omega | (simp only [List.length_append, List.length_map, List.length_cons, List.length_nil, List.length_take, List.length_drop, List.length_set] <;> omega) | (simp <;> omega))⟩
              refine o_held (i := 23) [29, 30, 31] (fun j w => ⟨(fun j w => ⟨(fun j w => ⟨(fun j w => ⟨(fun j w => ⟨(fun _ _ => trivial) j w, fun _ h => h⟩) j w, fun _ h => h⟩) j w, fun _ h => h⟩) j w, fun _ h => h⟩) j w, fun _ h => h⟩) rfl rfl (by kernel_rfl) (goes1 rfl rfl hg44b) (QOk.then (QOk.inBlock (QOk.then (QOk.then (QOk.inBlock (QOk.then QOk.body)))))) (q_load1 rfl (by kernel_rfl) (SlG.cell (hG.mono hS36.base) (Gle.refl _) (at1 (iv_at hx45)))) ?_
              have hly := lastN_pos hx45 (by omega)
              refine o_pure (i := 24) (fun j w => ⟨(fun j w => ⟨(fun j w => ⟨(fun j w => ⟨(fun j w => ⟨(fun j w => ⟨(fun _ _ => trivial) j w, fun _ h => h⟩) j w, fun _ h => h⟩) j w, fun _ h => h⟩) j w, fun _ h => h⟩) j w, fun _ h => h⟩) j w, fun _ h => h⟩) rfl rfl (by kernel_rfl) (goes1 rfl rfl hg44b) (QOk.then (QOk.inBlock (QOk.then (QOk.then (QOk.inBlock (QOk.then QOk.body)))))) (fun w => q_fieldAddr (ft := 23) (o := 4) rfl (by kernel_rfl)) ?_
              refine o_held (i := 25) [27, 28, 29, 30, 31] (fun j w => ⟨(fun j w => ⟨(fun j w => ⟨(fun j w => ⟨(fun j w => ⟨(fun j w => ⟨(fun _ _ => trivial) j w, fun _ h => h⟩) j w, fun _ h => h⟩) j w, fun _ h => h⟩) j w, fun _ h => h⟩) j w, fun _ h => h⟩) j w, fun _ h => h⟩) rfl rfl (by kernel_rfl) (goes1 rfl rfl hg44b) (QOk.then (QOk.inBlock (QOk.then (QOk.then (QOk.inBlock (QOk.then QOk.body)))))) (q_load1 rfl (by kernel_rfl) (hS36.cell (i := 0) rfl rfl)) ?_
              refine o_pure (i := 26) (fun j w => ⟨(fun j w => ⟨(fun j w => ⟨(fun j w => ⟨(fun j w => ⟨(fun j w => ⟨(fun j w => ⟨(fun _ _ => trivial) j w, fun _ h => h⟩) j w, fun _ h => h⟩) j w, fun _ h => h⟩) j w, fun _ h => h⟩) j w, fun _ h => h⟩) j w, fun _ h => h⟩) j w, fun _ h => h⟩) rfl rfl (by kernel_rfl) (goes1 rfl rfl hg44b) (QOk.then (QOk.inBlock (QOk.then (QOk.then (QOk.inBlock (QOk.then QOk.body)))))) (fun w => q_moveI rfl) ?_
              refine o_pure (i := 27) (fun j w => ⟨(fun j w => ⟨(fun j w => ⟨(fun j w => ⟨(fun j w => ⟨(fun j w => ⟨(fun j w => ⟨(fun _ _ => trivial) j w, fun _ h => h⟩) j w, fun _ h => h⟩) j w, fun _ h => h⟩) j w, fun _ h => h⟩) j w, fun _ h => h⟩) j w, fun _ h => h⟩) j w, fun _ h => h⟩) rfl rfl (by kernel_rfl) (goes1 rfl rfl hg44b) (QOk.then (QOk.inBlock (QOk.then (QOk.then (QOk.inBlock (QOk.then QOk.body)))))) (fun w => q_ixG (e := 3) (m := 1) (j := i) rfl rfl (by kernel_rfl) (by kernel_rfl) (by first | rfl | omega) (by omega) hG (by rw [iv_len]; first | omega | (simp only [List.length_append, List.length_map, List.length_cons, List.length_nil, List.length_take, List.length_drop, List.length_set] <;> omega))) ?_
              refine o_held (i := 28) [29, 30, 31] (fun j w => ⟨(fun j w => ⟨(fun j w => ⟨(fun j w => ⟨(fun j w => ⟨(fun j w => ⟨(fun j w => ⟨(fun _ _ => trivial) j w, fun _ h => h⟩) j w, fun _ h => h⟩) j w, fun _ h => h⟩) j w, fun _ h => h⟩) j w, fun _ h => h⟩) j w, fun _ h => h⟩) j w, fun _ h => h⟩) rfl rfl (by kernel_rfl) (goes1 rfl rfl hg44b) (QOk.then (QOk.inBlock (QOk.then (QOk.then (QOk.inBlock (QOk.then QOk.body)))))) (q_load1 rfl (by kernel_rfl) (SlG.cell (hG.mono hS36.base) (Gle.refl _) (at1 (iv_at hx37)))) ?_
              refine o_pure (i := 29) (fun j w => ⟨(fun j w => ⟨(fun j w => ⟨(fun j w => ⟨(fun j w => ⟨(fun j w => ⟨(fun j w => ⟨(fun j w => ⟨(fun _ _ => trivial) j w, fun _ h => h⟩) j w, fun _ h => h⟩) j w, fun _ h => h⟩) j w, fun _ h => h⟩) j w, fun _ h => h⟩) j w, fun _ h => h⟩) j w, fun _ h => h⟩) j w, fun _ h => h⟩) rfl rfl (by kernel_rfl) (goes1 rfl rfl hg44b) (QOk.then (QOk.inBlock (QOk.then (QOk.then (QOk.inBlock (QOk.then QOk.body)))))) (fun w => q_geq rfl rfl) ?_
              refine o_pure (i := 30) (fun j w => ⟨(fun j w => ⟨(fun j w => ⟨(fun j w => ⟨(fun j w => ⟨(fun j w => ⟨(fun j w => ⟨(fun j w => ⟨(fun _ _ => trivial) j w, fun _ h => h⟩) j w, fun _ h => h⟩) j w, fun _ h => h⟩) j w, fun _ h => h⟩) j w, fun _ h => h⟩) j w, fun _ h => h⟩) j w, fun _ h => h⟩) j w, fun _ h => h⟩) rfl rfl (by kernel_rfl) (goes1 rfl rfl hg41b) (QOk.then (QOk.inBlock (QOk.then (QOk.then (QOk.inBlock (QOk.then QOk.body)))))) (fun w => q_pickT rfl hg44b rfl) ?_
              refine o_pure (i := 31) (fun j w => ⟨(fun j w => ⟨(fun j w => ⟨(fun j w => ⟨(fun j w => ⟨(fun j w => ⟨(fun j w => ⟨(fun j w => ⟨(fun _ _ => trivial) j w, fun _ h => h⟩) j w, fun _ h => h⟩) j w, fun _ h => h⟩) j w, fun _ h => h⟩) j w, fun _ h => h⟩) j w, fun _ h => h⟩) j w, fun _ h => h⟩) j w, fun _ h => h⟩) rfl rfl (by kernel_rfl) (goes0 rfl) (QOk.then (QOk.inBlock (QOk.then (QOk.then (QOk.inBlock (QOk.then QOk.body)))))) (fun w => q_pickF rfl hg41b rfl) ?_
              refine o_done (by kernel_rfl) ?_
              refine hK35 _ _ ?_
              refine c_cond rfl (fun hc46 => ?_) (fun hc46 => ?_)
              ·
               have hc46b := hc46
               try simp only [decide_eq_true_eq, decide_eq_false_iff_not, Bool.not_eq_true', Bool.not_eq_false', Bool.and_eq_true, Bool.or_eq_true, Int.not_lt, Int.not_le, ne_eq, Decidable.not_not] at hc46
               refine wp_seq_k (fun K47 hK47 => ?_)
               refine wp_region_lit ?_
               refine l_q rfl rfl (q_assignB rfl) ?_
               refine l_nil ?_
               refine hK47 _ _ ?_
               refine wp_ret ?_
               refine c_ret1 rfl rfl ?_
               exact ⟨_, rfl, congrArg Value.bool (bad_right (okTo_bad hx37 (by simp only [decide_eq_true_eq, decide_eq_false_iff_not] at *; omega))), hS36.drop⟩
              ·
               have hc46b := hc46
               try simp only [decide_eq_true_eq, decide_eq_false_iff_not, Bool.not_eq_true', Bool.not_eq_false', Bool.and_eq_true, Bool.or_eq_true, Int.not_lt, Int.not_le, ne_eq, Decidable.not_not] at hc46
               refine wp_skip ?_
               refine hK34 _ _ ?_
               refine wp_region_lit ?_
               refine l_q rfl rfl (q_moveI rfl) ?_
               refine l_q rfl rfl (q_addx rfl rfl (by first | decide | omega) (by first | decide | omega)) ?_
               refine l_q rfl rfl (q_assignI rfl) ?_
               refine l_nil ?_
               refine hK30 _ _ (came ((i + 1)) (by repeat' (first | exact Agree.refl _ _ | refine Agree.up ?_ rfl | refine Agree.hav2 ?_ rfl | refine Agree.ups2 ?_ rfl)) (by repeat' (first | exact trivial | refine ⟨by first | rfl | exact int_succ _ | assumption, ?_⟩)) ?_)
               exact ⟨⟨hS36, (by show i + 1 ≤ l.nd.length; omega), hk.next hx37 (by simp only [decide_eq_true_eq, decide_eq_false_iff_not] at *; omega)⟩, by (show l.nd.length - (i + 1) < l.nd.length - i); omega⟩
             ·
              have hg44b := hg44
              try simp only [decide_eq_true_eq, decide_eq_false_iff_not, Bool.not_eq_true', Bool.not_eq_false', Bool.and_eq_true, Bool.or_eq_true, Int.not_lt, Int.not_le, ne_eq, Decidable.not_not] at hg44
              refine o_off (i := 18) (fun j w => ⟨(fun j w => ⟨(fun j w => ⟨(fun j w => ⟨(fun _ _ => trivial) j w, fun _ h => h⟩) j w, fun _ h => h⟩) j w, fun _ h => h⟩) j w, fun _ h => h⟩) rfl rfl (by kernel_rfl) rfl rfl hg44b (QOk.then (QOk.inBlock (QOk.then (QOk.then (QOk.inBlock (QOk.then QOk.body)))))) ?_
              refine o_off (i := 19) (fun j w => ⟨(fun j w => ⟨(fun j w => ⟨(fun j w => ⟨(fun _ _ => trivial) j w, fun _ h => h⟩) j w, fun _ h => h⟩) j w, fun _ h => h⟩) j w, fun _ h => h⟩) rfl rfl (by kernel_rfl) rfl rfl hg44b (QOk.then (QOk.inBlock (QOk.then (QOk.then (QOk.inBlock (QOk.then QOk.body)))))) ?_
              refine o_off (i := 20) (fun j w => ⟨(fun j w => ⟨(fun j w => ⟨(fun j w => ⟨(fun _ _ => trivial) j w, fun _ h => h⟩) j w, fun _ h => h⟩) j w, fun _ h => h⟩) j w, fun _ h => h⟩) rfl rfl (by kernel_rfl) rfl rfl hg44b (QOk.then (QOk.inBlock (QOk.then (QOk.then (QOk.inBlock (QOk.then QOk.body)))))) ?_
              refine o_off (i := 21) (fun j w => ⟨(fun j w => ⟨(fun j w => ⟨(fun j w => ⟨(fun _ _ => trivial) j w, fun _ h => h⟩) j w, fun _ h => h⟩) j w, fun _ h => h⟩) j w, fun _ h => h⟩) rfl rfl (by kernel_rfl) rfl rfl hg44b (QOk.then (QOk.inBlock (QOk.then (QOk.then (QOk.inBlock (QOk.then QOk.body)))))) ?_
              refine o_off (i := 22) (fun j w => ⟨(fun j w => ⟨(fun j w => ⟨(fun j w => ⟨(fun _ _ => trivial) j w, fun _ h => h⟩) j w, fun _ h => h⟩) j w, fun _ h => h⟩) j w, fun _ h => h⟩) rfl rfl (by kernel_rfl) rfl rfl hg44b (QOk.then (QOk.inBlock (QOk.then (QOk.then (QOk.inBlock (QOk.then QOk.body)))))) ?_
              refine o_off (i := 23) (fun j w => ⟨(fun j w => ⟨(fun j w => ⟨(fun j w => ⟨(fun _ _ => trivial) j w, fun _ h => h⟩) j w, fun _ h => h⟩) j w, fun _ h => h⟩) j w, fun _ h => h⟩) rfl rfl (by kernel_rfl) rfl rfl hg44b (QOk.then (QOk.inBlock (QOk.then (QOk.then (QOk.inBlock (QOk.then QOk.body)))))) ?_
              refine o_off (i := 24) (fun j w => ⟨(fun j w => ⟨(fun j w => ⟨(fun j w => ⟨(fun _ _ => trivial) j w, fun _ h => h⟩) j w, fun _ h => h⟩) j w, fun _ h => h⟩) j w, fun _ h => h⟩) rfl rfl (by kernel_rfl) rfl rfl hg44b (QOk.then (QOk.inBlock (QOk.then (QOk.then (QOk.inBlock (QOk.then QOk.body)))))) ?_
              refine o_off (i := 25) (fun j w => ⟨(fun j w => ⟨(fun j w => ⟨(fun j w => ⟨(fun _ _ => trivial) j w, fun _ h => h⟩) j w, fun _ h => h⟩) j w, fun _ h => h⟩) j w, fun _ h => h⟩) rfl rfl (by kernel_rfl) rfl rfl hg44b (QOk.then (QOk.inBlock (QOk.then (QOk.then (QOk.inBlock (QOk.then QOk.body)))))) ?_
              refine o_off (i := 26) (fun j w => ⟨(fun j w => ⟨(fun j w => ⟨(fun j w => ⟨(fun _ _ => trivial) j w, fun _ h => h⟩) j w, fun _ h => h⟩) j w, fun _ h => h⟩) j w, fun _ h => h⟩) rfl rfl (by kernel_rfl) rfl rfl hg44b (QOk.then (QOk.inBlock (QOk.then (QOk.then (QOk.inBlock (QOk.then QOk.body)))))) ?_
              refine o_off (i := 27) (fun j w => ⟨(fun j w => ⟨(fun j w => ⟨(fun j w => ⟨(fun _ _ => trivial) j w, fun _ h => h⟩) j w, fun _ h => h⟩) j w, fun _ h => h⟩) j w, fun _ h => h⟩) rfl rfl (by kernel_rfl) rfl rfl hg44b (QOk.then (QOk.inBlock (QOk.then (QOk.then (QOk.inBlock (QOk.then QOk.body)))))) ?_
              refine o_off (i := 28) (fun j w => ⟨(fun j w => ⟨(fun j w => ⟨(fun j w => ⟨(fun _ _ => trivial) j w, fun _ h => h⟩) j w, fun _ h => h⟩) j w, fun _ h => h⟩) j w, fun _ h => h⟩) rfl rfl (by kernel_rfl) rfl rfl hg44b (QOk.then (QOk.inBlock (QOk.then (QOk.then (QOk.inBlock (QOk.then QOk.body)))))) ?_
              refine o_off (i := 29) (fun j w => ⟨(fun j w => ⟨(fun j w => ⟨(fun j w => ⟨(fun _ _ => trivial) j w, fun _ h => h⟩) j w, fun _ h => h⟩) j w, fun _ h => h⟩) j w, fun _ h => h⟩) rfl rfl (by kernel_rfl) rfl rfl hg44b (QOk.then (QOk.inBlock (QOk.then (QOk.then (QOk.inBlock (QOk.then QOk.body)))))) ?_
              refine o_pure (i := 30) (fun j w => ⟨(fun j w => ⟨(fun j w => ⟨(fun j w => ⟨(fun _ _ => trivial) j w, fun _ h => h⟩) j w, fun _ h => h⟩) j w, fun _ h => h⟩) j w, fun _ h => h⟩) rfl rfl (by kernel_rfl) (goes1 rfl rfl hg41b) (QOk.then (QOk.inBlock (QOk.then (QOk.then (QOk.inBlock (QOk.then QOk.body)))))) (fun w => q_pickF rfl hg44b rfl) ?_
              refine o_pure (i := 31) (fun j w => ⟨(fun j w => ⟨(fun j w => ⟨(fun j w => ⟨(fun _ _ => trivial) j w, fun _ h => h⟩) j w, fun _ h => h⟩) j w, fun _ h => h⟩) j w, fun _ h => h⟩) rfl rfl (by kernel_rfl) (goes0 rfl) (QOk.then (QOk.inBlock (QOk.then (QOk.then (QOk.inBlock (QOk.then QOk.body)))))) (fun w => q_pickF rfl hg41b rfl) ?_
              refine o_done (by kernel_rfl) ?_
              refine hK35 _ _ ?_
              refine c_condF rfl rfl ?_
              refine wp_skip ?_
              refine hK34 _ _ ?_
              refine wp_region_lit ?_
              refine l_q rfl rfl (q_moveI rfl) ?_
              refine l_q rfl rfl (q_addx rfl rfl (by first | decide | omega) (by first | decide | omega)) ?_
              refine l_q rfl rfl (q_assignI rfl) ?_
              refine l_nil ?_
              refine hK30 _ _ (came ((i + 1)) (by repeat' (first | exact Agree.refl _ _ | refine Agree.up ?_ rfl | refine Agree.hav2 ?_ rfl | refine Agree.ups2 ?_ rfl)) (by repeat' (first | exact trivial | refine ⟨by first | rfl | exact int_succ _ | assumption, ?_⟩)) ?_)
              exact ⟨⟨hS36, (by show i + 1 ≤ l.nd.length; omega), hk.next hx37 (by simp only [decide_eq_true_eq, decide_eq_false_iff_not] at *; omega)⟩, by (show l.nd.length - (i + 1) < l.nd.length - i); omega⟩
          ·
           have hc33b := hc33
           try simp only [decide_eq_true_eq, decide_eq_false_iff_not, Bool.not_eq_true', Bool.not_eq_false', Bool.and_eq_true, Bool.or_eq_true, Int.not_lt, Int.not_le, ne_eq, Decidable.not_not] at hc33
           refine wp_exit ?_
           refine hK28 _ _ ?_
           refine wp_seq_k (fun K49 hK49 => ?_)
           refine wp_region_lit ?_
           refine l_q rfl rfl (q_fieldAddr (ft := 22) (o := 0) rfl (by kernel_rfl)) ?_
           refine l_q rfl rfl (q_load1 rfl (by kernel_rfl) (hS30.cell (i := 0) rfl rfl)) ?_
           refine l_q rfl rfl (q_eql rfl rfl) ?_
           refine l_q rfl rfl (q_moveB rfl) ?_
           refine g_splitL (t := 84) rfl (fun hg50 => ?_) (fun hg50 => ?_)
           ·
            have hg50b := hg50
            try simp only [decide_eq_true_eq, decide_eq_false_iff_not, Bool.not_eq_true', Bool.not_eq_false', Bool.and_eq_true, Bool.or_eq_true, Int.not_lt, Int.not_le, ne_eq, Decidable.not_not] at hg50
            refine l_off rfl rfl rfl hg50b ?_
            refine l_off rfl rfl rfl hg50b ?_
            refine l_off rfl rfl rfl hg50b ?_
            refine l_off rfl rfl rfl hg50b ?_
            refine l_q rfl rfl (q_pickT rfl hg50b rfl) ?_
            refine l_q rfl rfl (q_assignB rfl) ?_
            refine l_nil ?_
            refine hK49 _ _ ?_
            refine wp_ret ?_
            refine c_ret1 rfl rfl ?_
            have hii : i = l.nd.length := by omega
            rw [hii] at hk
            have hgood := okTo_ris.1 hk
            exact ⟨_, rfl, congrArg Value.bool (by first | exact good_1 (by simp only [decide_eq_true_eq, decide_eq_false_iff_not, Bool.not_eq_true', Bool.not_eq_false'] at *; omega) hgood (by simp only [decide_eq_true_eq, decide_eq_false_iff_not, Bool.not_eq_true', Bool.not_eq_false'] at *; omega) | exact rl_2 (by simp only [decide_eq_true_eq, decide_eq_false_iff_not, Bool.not_eq_true', Bool.not_eq_false'] at *; omega) (by simp only [decide_eq_true_eq, decide_eq_false_iff_not, Bool.not_eq_true', Bool.not_eq_false'] at *; omega)), hS30.drop⟩
           ·
            have hg50b := hg50
            try simp only [decide_eq_true_eq, decide_eq_false_iff_not, Bool.not_eq_true', Bool.not_eq_false', Bool.and_eq_true, Bool.or_eq_true, Int.not_lt, Int.not_le, ne_eq, Decidable.not_not] at hg50
            refine l_on rfl rfl hg50b ?_
            refine l_q rfl rfl (q_fieldAddr (ft := 23) (o := 4) rfl (by kernel_rfl)) ?_
            refine l_on rfl rfl hg50b ?_
            refine l_q rfl rfl (q_load1 rfl (by kernel_rfl) (hS30.cell (i := 0) rfl rfl)) ?_
            refine l_on rfl rfl hg50b ?_
            refine l_q rfl rfl (q_lenSl (e := 3) rfl (by kernel_rfl)) ?_
            refine l_on rfl rfl hg50b ?_
            refine l_q rfl rfl (q_eql rfl rfl) ?_
            refine l_q rfl rfl (q_pickF rfl hg50b rfl) ?_
            refine l_q rfl rfl (q_assignB rfl) ?_
            refine l_nil ?_
            refine hK49 _ _ ?_
            refine wp_ret ?_
            refine c_ret1 rfl rfl ?_
            have hii : i = l.nd.length := by omega
            rw [hii] at hk
            have hgood := okTo_ris.1 hk
            exact ⟨_, rfl, congrArg Value.bool (by first | exact good_1 (by simp only [decide_eq_true_eq, decide_eq_false_iff_not, Bool.not_eq_true', Bool.not_eq_false'] at *; omega) hgood (by simp only [decide_eq_true_eq, decide_eq_false_iff_not, Bool.not_eq_true', Bool.not_eq_false'] at *; omega) | exact rl_2 (by simp only [decide_eq_true_eq, decide_eq_false_iff_not, Bool.not_eq_true', Bool.not_eq_false'] at *; omega) (by simp only [decide_eq_true_eq, decide_eq_false_iff_not, Bool.not_eq_true', Bool.not_eq_false'] at *; omega)), hS30.drop⟩

set_option maxHeartbeats 2000000 in
set_option maxRecDepth 100000 in
theorem lsame_ok (a b : Lr) (n m : Nat) (hn : a.nd.length = n) (hm : b.nd.length = m) (hnb : n ≤ 2000000) (hmb : m ≤ 2000000) (aa ab : Option Addr) (ca cb : Nat) (w : World) (hG : SlG (hw w) aa (iv a.nd)) (hG2 : SlG (hw w) ab (iv b.nd)) : Calls Try.prog 17 #[.agg #[.int .i64 a.k, .int .i64 a.f, .int .i64 a.t, .int .i64 a.x, .slice aa n ca], .agg #[.int .i64 b.k, .int .i64 b.f, .int .i64 b.t, .int .i64 b.x, .slice ab m cb]] w (PostR w fun v => v = .bool (sameL a b)) := by
 have hS := St.start w
 subst hn hm
 refine c_enter Try.func17 rfl rfl rfl ?_
 refine wp_seq_k (fun K1 hK1 => ?_)
 refine wp_region_lit ?_
 refine l_e rfl (fun K hK => ?_)
 refine e_boxA hS rfl (fun b2 w2 (hS2 : St _ _ [.blk b2 (.cells #[.int .i64 a.k, .int .i64 a.f, .int .i64 a.t, .int .i64 a.x, .slice aa a.nd.length ca] 25)] _) => ?_)
 clear hS
 refine hK _ _ ?_; clear hK K
 refine l_e rfl (fun K hK => ?_)
 refine e_boxA hS2 rfl (fun b3 w3 (hS3 : St _ _ [.blk b3 (.cells #[.int .i64 b.k, .int .i64 b.f, .int .i64 b.t, .int .i64 b.x, .slice ab b.nd.length cb] 25), _] _) => ?_)
 clear hS2
 refine hK _ _ ?_; clear hK K
 refine l_q rfl rfl (q_assignB rfl) ?_
 refine l_nil ?_
 refine hK1 _ _ ?_
 refine wp_seq_k (fun K4 hK4 => ?_)
 refine wp_seq_k (fun K5 hK5 => ?_)
 refine wp_region_lit ?_
 refine l_q rfl rfl (q_fieldAddr (ft := 22) (o := 0) rfl (by kernel_rfl)) ?_
 refine l_q rfl rfl (q_load1 rfl (by kernel_rfl) (hS3.cell (i := 1) rfl rfl)) ?_
 refine l_q rfl rfl (q_fieldAddr (ft := 22) (o := 0) rfl (by kernel_rfl)) ?_
 refine l_q rfl rfl (q_load1 rfl (by kernel_rfl) (hS3.cell (i := 0) rfl rfl)) ?_
 refine l_q rfl rfl (q_neq rfl rfl) ?_
 refine l_q rfl rfl (q_moveB rfl) ?_
 refine g_splitL (t := 11) rfl (fun hg6 => ?_) (fun hg6 => ?_)
 ·
  have hg6b := hg6
  try simp only [decide_eq_true_eq, decide_eq_false_iff_not, Bool.not_eq_true', Bool.not_eq_false', Bool.and_eq_true, Bool.or_eq_true, Int.not_lt, Int.not_le, ne_eq, Decidable.not_not] at hg6
  refine l_off rfl rfl rfl hg6b ?_
  refine l_off rfl rfl rfl hg6b ?_
  refine l_off rfl rfl rfl hg6b ?_
  refine l_off rfl rfl rfl hg6b ?_
  refine l_off rfl rfl rfl hg6b ?_
  refine l_q rfl rfl (q_pickT rfl hg6b rfl) ?_
  refine l_q rfl rfl (q_moveB rfl) ?_
  refine l_off rfl rfl rfl rfl ?_
  refine l_off rfl rfl rfl rfl ?_
  refine l_off rfl rfl rfl rfl ?_
  refine l_off rfl rfl rfl rfl ?_
  refine l_off rfl rfl rfl rfl ?_
  refine l_q rfl rfl (q_pickT rfl rfl rfl) ?_
  refine l_q rfl rfl (q_moveB rfl) ?_
  refine l_off rfl rfl rfl rfl ?_
  refine l_off rfl rfl rfl rfl ?_
  refine l_off rfl rfl rfl rfl ?_
  refine l_off rfl rfl rfl rfl ?_
  refine l_off rfl rfl rfl rfl ?_
  refine l_q rfl rfl (q_pickT rfl rfl rfl) ?_
  refine l_q rfl rfl (q_moveB rfl) ?_
  refine l_off rfl rfl rfl rfl ?_
  refine l_off rfl rfl rfl rfl ?_
  refine l_off rfl rfl rfl rfl ?_
  refine l_off rfl rfl rfl rfl ?_
  refine l_off rfl rfl rfl rfl ?_
  refine l_off rfl rfl rfl rfl ?_
  refine l_off rfl rfl rfl rfl ?_
  refine l_q rfl rfl (q_pickT rfl rfl rfl) ?_
  refine l_nil ?_
  refine hK5 _ _ ?_
  refine c_condT rfl rfl ?_
  refine wp_seq_k (fun K8 hK8 => ?_)
  refine wp_region_lit ?_
  refine l_q rfl rfl (q_assignB rfl) ?_
  refine l_nil ?_
  refine hK8 _ _ ?_
  refine wp_ret ?_
  refine c_ret1 rfl rfl ?_
  exact ⟨_, rfl, congrArg Value.bool (same_no1 (by simp only [decide_eq_true_eq, decide_eq_false_iff_not, Bool.not_eq_true', Bool.not_eq_false'] at *; omega)), hS3.drop⟩
 ·
  have hg6b := hg6
  try simp only [decide_eq_true_eq, decide_eq_false_iff_not, Bool.not_eq_true', Bool.not_eq_false', Bool.and_eq_true, Bool.or_eq_true, Int.not_lt, Int.not_le, ne_eq, Decidable.not_not] at hg6
  refine l_on rfl rfl hg6b ?_
  refine l_q rfl rfl (q_fieldAddr (ft := 3) (o := 1) rfl (by kernel_rfl)) ?_
  refine l_on rfl rfl hg6b ?_
  refine l_q rfl rfl (q_load1 rfl (by kernel_rfl) (hS3.cell (i := 1) rfl rfl)) ?_
  refine l_on rfl rfl hg6b ?_
  refine l_q rfl rfl (q_fieldAddr (ft := 3) (o := 1) rfl (by kernel_rfl)) ?_
  refine l_on rfl rfl hg6b ?_
  refine l_q rfl rfl (q_load1 rfl (by kernel_rfl) (hS3.cell (i := 0) rfl rfl)) ?_
  refine l_on rfl rfl hg6b ?_
  refine l_q rfl rfl (q_neq rfl rfl) ?_
  refine l_q rfl rfl (q_pickF rfl hg6b rfl) ?_
  refine l_q rfl rfl (q_moveB rfl) ?_
  refine g_splitL (t := 18) rfl (fun hg9 => ?_) (fun hg9 => ?_)
  ·
   have hg9b := hg9
   try simp only [decide_eq_true_eq, decide_eq_false_iff_not, Bool.not_eq_true', Bool.not_eq_false', Bool.and_eq_true, Bool.or_eq_true, Int.not_lt, Int.not_le, ne_eq, Decidable.not_not] at hg9
   refine l_off rfl rfl rfl hg9b ?_
   refine l_off rfl rfl rfl hg9b ?_
   refine l_off rfl rfl rfl hg9b ?_
   refine l_off rfl rfl rfl hg9b ?_
   refine l_off rfl rfl rfl hg9b ?_
   refine l_q rfl rfl (q_pickT rfl hg9b rfl) ?_
   refine l_q rfl rfl (q_moveB rfl) ?_
   refine l_off rfl rfl rfl rfl ?_
   refine l_off rfl rfl rfl rfl ?_
   refine l_off rfl rfl rfl rfl ?_
   refine l_off rfl rfl rfl rfl ?_
   refine l_off rfl rfl rfl rfl ?_
   refine l_q rfl rfl (q_pickT rfl rfl rfl) ?_
   refine l_q rfl rfl (q_moveB rfl) ?_
   refine l_off rfl rfl rfl rfl ?_
   refine l_off rfl rfl rfl rfl ?_
   refine l_off rfl rfl rfl rfl ?_
   refine l_off rfl rfl rfl rfl ?_
   refine l_off rfl rfl rfl rfl ?_
   refine l_off rfl rfl rfl rfl ?_
   refine l_off rfl rfl rfl rfl ?_
   refine l_q rfl rfl (q_pickT rfl rfl rfl) ?_
   refine l_nil ?_
   refine hK5 _ _ ?_
   refine c_condT rfl rfl ?_
   refine wp_seq_k (fun K11 hK11 => ?_)
   refine wp_region_lit ?_
   refine l_q rfl rfl (q_assignB rfl) ?_
   refine l_nil ?_
   refine hK11 _ _ ?_
   refine wp_ret ?_
   refine c_ret1 rfl rfl ?_
   exact ⟨_, rfl, congrArg Value.bool (same_no1 (by simp only [decide_eq_true_eq, decide_eq_false_iff_not, Bool.not_eq_true', Bool.not_eq_false'] at *; omega)), hS3.drop⟩
  ·
   have hg9b := hg9
   try simp only [decide_eq_true_eq, decide_eq_false_iff_not, Bool.not_eq_true', Bool.not_eq_false', Bool.and_eq_true, Bool.or_eq_true, Int.not_lt, Int.not_le, ne_eq, Decidable.not_not] at hg9
   refine l_on rfl rfl hg9b ?_
   refine l_q rfl rfl (q_fieldAddr (ft := 3) (o := 2) rfl (by kernel_rfl)) ?_
   refine l_on rfl rfl hg9b ?_
   refine l_q rfl rfl (q_load1 rfl (by kernel_rfl) (hS3.cell (i := 1) rfl rfl)) ?_
   refine l_on rfl rfl hg9b ?_
   refine l_q rfl rfl (q_fieldAddr (ft := 3) (o := 2) rfl (by kernel_rfl)) ?_
   refine l_on rfl rfl hg9b ?_
   refine l_q rfl rfl (q_load1 rfl (by kernel_rfl) (hS3.cell (i := 0) rfl rfl)) ?_
   refine l_on rfl rfl hg9b ?_
   refine l_q rfl rfl (q_neq rfl rfl) ?_
   refine l_q rfl rfl (q_pickF rfl hg9b rfl) ?_
   refine l_q rfl rfl (q_moveB rfl) ?_
   refine g_splitL (t := 25) rfl (fun hg12 => ?_) (fun hg12 => ?_)
   ·
    have hg12b := hg12
    try simp only [decide_eq_true_eq, decide_eq_false_iff_not, Bool.not_eq_true', Bool.not_eq_false', Bool.and_eq_true, Bool.or_eq_true, Int.not_lt, Int.not_le, ne_eq, Decidable.not_not] at hg12
    refine l_off rfl rfl rfl hg12b ?_
    refine l_off rfl rfl rfl hg12b ?_
    refine l_off rfl rfl rfl hg12b ?_
    refine l_off rfl rfl rfl hg12b ?_
    refine l_off rfl rfl rfl hg12b ?_
    refine l_q rfl rfl (q_pickT rfl hg12b rfl) ?_
    refine l_q rfl rfl (q_moveB rfl) ?_
    refine l_off rfl rfl rfl rfl ?_
    refine l_off rfl rfl rfl rfl ?_
    refine l_off rfl rfl rfl rfl ?_
    refine l_off rfl rfl rfl rfl ?_
    refine l_off rfl rfl rfl rfl ?_
    refine l_off rfl rfl rfl rfl ?_
    refine l_off rfl rfl rfl rfl ?_
    refine l_q rfl rfl (q_pickT rfl rfl rfl) ?_
    refine l_nil ?_
    refine hK5 _ _ ?_
    refine c_condT rfl rfl ?_
    refine wp_seq_k (fun K14 hK14 => ?_)
    refine wp_region_lit ?_
    refine l_q rfl rfl (q_assignB rfl) ?_
    refine l_nil ?_
    refine hK14 _ _ ?_
    refine wp_ret ?_
    refine c_ret1 rfl rfl ?_
    exact ⟨_, rfl, congrArg Value.bool (same_no1 (by simp only [decide_eq_true_eq, decide_eq_false_iff_not, Bool.not_eq_true', Bool.not_eq_false'] at *; omega)), hS3.drop⟩
   ·
    have hg12b := hg12
    try simp only [decide_eq_true_eq, decide_eq_false_iff_not, Bool.not_eq_true', Bool.not_eq_false', Bool.and_eq_true, Bool.or_eq_true, Int.not_lt, Int.not_le, ne_eq, Decidable.not_not] at hg12
    refine l_on rfl rfl hg12b ?_
    refine l_q rfl rfl (q_fieldAddr (ft := 3) (o := 3) rfl (by kernel_rfl)) ?_
    refine l_on rfl rfl hg12b ?_
    refine l_q rfl rfl (q_load1 rfl (by kernel_rfl) (hS3.cell (i := 1) rfl rfl)) ?_
    refine l_on rfl rfl hg12b ?_
    refine l_q rfl rfl (q_fieldAddr (ft := 3) (o := 3) rfl (by kernel_rfl)) ?_
    refine l_on rfl rfl hg12b ?_
    refine l_q rfl rfl (q_load1 rfl (by kernel_rfl) (hS3.cell (i := 0) rfl rfl)) ?_
    refine l_on rfl rfl hg12b ?_
    refine l_q rfl rfl (q_neq rfl rfl) ?_
    refine l_q rfl rfl (q_pickF rfl hg12b rfl) ?_
    refine l_q rfl rfl (q_moveB rfl) ?_
    refine g_splitL (t := 32) rfl (fun hg15 => ?_) (fun hg15 => ?_)
    ·
     have hg15b := hg15
     try simp only [decide_eq_true_eq, decide_eq_false_iff_not, Bool.not_eq_true', Bool.not_eq_false', Bool.and_eq_true, Bool.or_eq_true, Int.not_lt, Int.not_le, ne_eq, Decidable.not_not] at hg15
     refine l_off rfl rfl rfl hg15b ?_
     refine l_off rfl rfl rfl hg15b ?_
     refine l_off rfl rfl rfl hg15b ?_
     refine l_off rfl rfl rfl hg15b ?_
     refine l_off rfl rfl rfl hg15b ?_
     refine l_off rfl rfl rfl hg15b ?_
     refine l_off rfl rfl rfl hg15b ?_
     refine l_q rfl rfl (q_pickT rfl hg15b rfl) ?_
     refine l_nil ?_
     refine hK5 _ _ ?_
     refine c_condT rfl rfl ?_
     refine wp_seq_k (fun K17 hK17 => ?_)
     refine wp_region_lit ?_
     refine l_q rfl rfl (q_assignB rfl) ?_
     refine l_nil ?_
     refine hK17 _ _ ?_
     refine wp_ret ?_
     refine c_ret1 rfl rfl ?_
     exact ⟨_, rfl, congrArg Value.bool (same_no1 (by simp only [decide_eq_true_eq, decide_eq_false_iff_not, Bool.not_eq_true', Bool.not_eq_false'] at *; omega)), hS3.drop⟩
    ·
     have hg15b := hg15
     try simp only [decide_eq_true_eq, decide_eq_false_iff_not, Bool.not_eq_true', Bool.not_eq_false', Bool.and_eq_true, Bool.or_eq_true, Int.not_lt, Int.not_le, ne_eq, Decidable.not_not] at hg15
     refine l_on rfl rfl hg15b ?_
     refine l_q rfl rfl (q_fieldAddr (ft := 23) (o := 4) rfl (by kernel_rfl)) ?_
     refine l_on rfl rfl hg15b ?_
     refine l_q rfl rfl (q_load1 rfl (by kernel_rfl) (hS3.cell (i := 1) rfl rfl)) ?_
     refine l_on rfl rfl hg15b ?_
     refine l_q rfl rfl (q_lenSl (e := 3) rfl (by kernel_rfl)) ?_
     refine l_on rfl rfl hg15b ?_
     refine l_q rfl rfl (q_fieldAddr (ft := 23) (o := 4) rfl (by kernel_rfl)) ?_
     refine l_on rfl rfl hg15b ?_
     refine l_q rfl rfl (q_load1 rfl (by kernel_rfl) (hS3.cell (i := 0) rfl rfl)) ?_
     refine l_on rfl rfl hg15b ?_
     refine l_q rfl rfl (q_lenSl (e := 3) rfl (by kernel_rfl)) ?_
     refine l_on rfl rfl hg15b ?_
     refine l_q rfl rfl (q_neq rfl rfl) ?_
     refine l_q rfl rfl (q_pickF rfl hg15b rfl) ?_
     refine l_nil ?_
     refine hK5 _ _ ?_
     refine c_cond rfl (fun hc18 => ?_) (fun hc18 => ?_)
     ·
      have hc18b := hc18
      try simp only [decide_eq_true_eq, decide_eq_false_iff_not, Bool.not_eq_true', Bool.not_eq_false', Bool.and_eq_true, Bool.or_eq_true, Int.not_lt, Int.not_le, ne_eq, Decidable.not_not] at hc18
      refine wp_seq_k (fun K19 hK19 => ?_)
      refine wp_region_lit ?_
      refine l_q rfl rfl (q_assignB rfl) ?_
      refine l_nil ?_
      refine hK19 _ _ ?_
      refine wp_ret ?_
      refine c_ret1 rfl rfl ?_
      exact ⟨_, rfl, congrArg Value.bool (same_no1 (by simp only [decide_eq_true_eq, decide_eq_false_iff_not, Bool.not_eq_true', Bool.not_eq_false'] at *; omega)), hS3.drop⟩
     ·
      have hc18b := hc18
      try simp only [decide_eq_true_eq, decide_eq_false_iff_not, Bool.not_eq_true', Bool.not_eq_false', Bool.and_eq_true, Bool.or_eq_true, Int.not_lt, Int.not_le, ne_eq, Decidable.not_not] at hc18
      have hab : a.k = b.k ∧ a.f = b.f ∧ a.t = b.t ∧ a.x = b.x ∧ (a.nd.length : Int) = b.nd.length := by simp only [decide_eq_true_eq, decide_eq_false_iff_not, Bool.not_eq_true', Bool.not_eq_false'] at *; omega
      refine wp_skip ?_
      refine hK4 _ _ ?_
      refine wp_seq_k (fun K20 hK20 => ?_)
      refine wp_seq_k (fun K21 hK21 => ?_)
      refine wp_region_lit ?_
      refine l_q rfl rfl (q_assignI rfl) ?_
      refine l_nil ?_
      refine hK21 _ _ ?_
      refine wp_block ?_
      refine c_loop (τ := Nat) [(4, 5), (41, 58)] (fun x => (fun (i : Nat) => [(5, .int .i64 (i : Int))]) x) (fun x w' => (fun (i : Nat) => St w (fun _ => False) [.blk b3 (.cells #[.int .i64 b.k, .int .i64 b.f, .int .i64 b.t, .int .i64 b.x, .slice ab b.nd.length cb] 25), .blk b2 (.cells #[.int .i64 a.k, .int .i64 a.f, .int .i64 a.t, .int .i64 a.x, .slice aa a.nd.length ca] 25)] w' ∧ i ≤ a.nd.length ∧ (∀ j, j < i → a.nd[j]? = b.nd[j]?)) x) (fun x => (fun (i : Nat) => a.nd.length - i) x) (0) ?_ (by repeat' (first | exact trivial | refine ⟨by first | rfl | exact int_succ _ | assumption, ?_⟩)) (fun i j22 w22 hJ22 K22 hK22 => ?_)
      ·
       exact ⟨hS3, Nat.zero_le _, fun j h => (by omega)⟩
      ·
       obtain ⟨hS22, hi, hk⟩ := hJ22
       try dsimp only at hS22 hi hk ⊢
       refine wp_seq_k (fun K23 hK23 => ?_)
       refine wp_seq_k (fun K24 hK24 => ?_)
       refine wp_region_lit ?_
       refine l_q rfl rfl (q_moveI rfl) ?_
       refine l_q rfl rfl (q_fieldAddr (ft := 23) (o := 4) rfl (by kernel_rfl)) ?_
       refine l_q rfl rfl (q_load1 rfl (by kernel_rfl) (hS22.cell (i := 1) rfl rfl)) ?_
       refine l_q rfl rfl (q_lenSl (e := 3) rfl (by kernel_rfl)) ?_
       refine l_q rfl rfl (q_lss rfl rfl) ?_
       refine l_nil ?_
       refine hK24 _ _ ?_
       refine c_cond rfl (fun hc25 => ?_) (fun hc25 => ?_)
       ·
        have hc25b := hc25
        try simp only [decide_eq_true_eq, decide_eq_false_iff_not, Bool.not_eq_true', Bool.not_eq_false', Bool.and_eq_true, Bool.or_eq_true, Int.not_lt, Int.not_le, ne_eq, Decidable.not_not] at hc25
        refine wp_skip ?_
        refine hK23 _ _ ?_
        refine wp_seq_k (fun K26 hK26 => ?_)
        refine wp_block ?_
        refine wp_seq_k (fun K27 hK27 => ?_)
        refine r_any (by kernel_rfl) hS22 (fun w28 hS28 => ?_)
        clear hS22
        refine o_pure (i := 0) (fun _ _ => trivial) rfl rfl (by kernel_rfl) (goes0 rfl) (QOk.then (QOk.inBlock (QOk.then (QOk.then (QOk.inBlock (QOk.then QOk.body)))))) (fun w => q_fieldAddr (ft := 23) (o := 4) rfl (by kernel_rfl)) ?_
        refine o_held (i := 1) [3, 4, 10] (fun _ _ => trivial) rfl rfl (by kernel_rfl) (goes0 rfl) (QOk.then (QOk.inBlock (QOk.then (QOk.then (QOk.inBlock (QOk.then QOk.body)))))) (q_load1 rfl (by kernel_rfl) (hS28.cell (i := 1) rfl rfl)) ?_
        refine o_pure (i := 2) (fun j w => ⟨(fun _ _ => trivial) j w, fun _ h => h⟩) rfl rfl (by kernel_rfl) (goes0 rfl) (QOk.then (QOk.inBlock (QOk.then (QOk.then (QOk.inBlock (QOk.then QOk.body)))))) (fun w => q_moveI rfl) ?_
        refine o_pure (i := 3) (fun j w => ⟨(fun _ _ => trivial) j w, fun _ h => h⟩) rfl rfl (by kernel_rfl) (goes0 rfl) (QOk.then (QOk.inBlock (QOk.then (QOk.then (QOk.inBlock (QOk.then QOk.body)))))) (fun w => q_ixG (e := 3) (m := 1) (j := i) rfl rfl (by kernel_rfl) (by kernel_rfl) (by first | rfl | omega) (by omega) hG (by rw [iv_len]; first | omega | (simp only [List.length_append, List.length_map, List.length_cons, List.length_nil, List.length_take, List.length_drop, List.length_set] <;> omega))) ?_
        obtain ⟨x29, hx29⟩ : ∃ x, (a.nd)[i]? = some x := ⟨_, List.getElem?_eq_getElem (by first | omega | (simp only [List.length_append, List.length_map, List.length_cons, List.length_nil, List.length_take, List.length_drop, List.length_set] <;> omega) | (simp <;> omega))⟩
        refine o_held (i := 4) [10] (fun j w => ⟨(fun _ _ => trivial) j w, fun _ h => h⟩) rfl rfl (by kernel_rfl) (goes0 rfl) (QOk.then (QOk.inBlock (QOk.then (QOk.then (QOk.inBlock (QOk.then QOk.body)))))) (q_load1 rfl (by kernel_rfl) (SlG.cell (hG.mono hS28.base) (Gle.refl _) (at1 (iv_at hx29)))) ?_
        refine o_pure (i := 5) (fun j w => ⟨(fun j w => ⟨(fun _ _ => trivial) j w, fun _ h => h⟩) j w, fun _ h => h⟩) rfl rfl (by kernel_rfl) (goes0 rfl) (QOk.then (QOk.inBlock (QOk.then (QOk.then (QOk.inBlock (QOk.then QOk.body)))))) (fun w => q_fieldAddr (ft := 23) (o := 4) rfl (by kernel_rfl)) ?_
        refine o_held (i := 6) [8, 9, 10] (fun j w => ⟨(fun j w => ⟨(fun _ _ => trivial) j w, fun _ h => h⟩) j w, fun _ h => h⟩) rfl rfl (by kernel_rfl) (goes0 rfl) (QOk.then (QOk.inBlock (QOk.then (QOk.then (QOk.inBlock (QOk.then QOk.body)))))) (q_load1 rfl (by kernel_rfl) (hS28.cell (i := 0) rfl rfl)) ?_
        refine o_pure (i := 7) (fun j w => ⟨(fun j w => ⟨(fun j w => ⟨(fun _ _ => trivial) j w, fun _ h => h⟩) j w, fun _ h => h⟩) j w, fun _ h => h⟩) rfl rfl (by kernel_rfl) (goes0 rfl) (QOk.then (QOk.inBlock (QOk.then (QOk.then (QOk.inBlock (QOk.then QOk.body)))))) (fun w => q_moveI rfl) ?_
        refine o_pure (i := 8) (fun j w => ⟨(fun j w => ⟨(fun j w => ⟨(fun _ _ => trivial) j w, fun _ h => h⟩) j w, fun _ h => h⟩) j w, fun _ h => h⟩) rfl rfl (by kernel_rfl) (goes0 rfl) (QOk.then (QOk.inBlock (QOk.then (QOk.then (QOk.inBlock (QOk.then QOk.body)))))) (fun w => q_ixG (e := 3) (m := 1) (j := i) rfl rfl (by kernel_rfl) (by kernel_rfl) (by first | rfl | omega) (by omega) hG2 (by rw [iv_len]; first | omega | (simp only [List.length_append, List.length_map, List.length_cons, List.length_nil, List.length_take, List.length_drop, List.length_set] <;> omega))) ?_
        obtain ⟨x30, hx30⟩ : ∃ x, (b.nd)[i]? = some x := ⟨_, List.getElem?_eq_getElem (by first | omega | (simp only [List.length_append, List.length_map, List.length_cons, List.length_nil, List.length_take, List.length_drop, List.length_set] <;> omega) | (simp <;> omega))⟩
        refine o_held (i := 9) [10] (fun j w => ⟨(fun j w => ⟨(fun j w => ⟨(fun _ _ => trivial) j w, fun _ h => h⟩) j w, fun _ h => h⟩) j w, fun _ h => h⟩) rfl rfl (by kernel_rfl) (goes0 rfl) (QOk.then (QOk.inBlock (QOk.then (QOk.then (QOk.inBlock (QOk.then QOk.body)))))) (q_load1 rfl (by kernel_rfl) (SlG.cell (hG2.mono hS28.base) (Gle.refl _) (at1 (iv_at hx30)))) ?_
        refine o_pure (i := 10) (fun j w => ⟨(fun j w => ⟨(fun j w => ⟨(fun j w => ⟨(fun _ _ => trivial) j w, fun _ h => h⟩) j w, fun _ h => h⟩) j w, fun _ h => h⟩) j w, fun _ h => h⟩) rfl rfl (by kernel_rfl) (goes0 rfl) (QOk.then (QOk.inBlock (QOk.then (QOk.then (QOk.inBlock (QOk.then QOk.body)))))) (fun w => q_neq rfl rfl) ?_
        refine o_done (by kernel_rfl) ?_
        refine hK27 _ _ ?_
        refine c_cond rfl (fun hc31 => ?_) (fun hc31 => ?_)
        ·
         have hc31b := hc31
         try simp only [decide_eq_true_eq, decide_eq_false_iff_not, Bool.not_eq_true', Bool.not_eq_false', Bool.and_eq_true, Bool.or_eq_true, Int.not_lt, Int.not_le, ne_eq, Decidable.not_not] at hc31
         refine wp_seq_k (fun K32 hK32 => ?_)
         refine wp_region_lit ?_
         refine l_q rfl rfl (q_assignB rfl) ?_
         refine l_nil ?_
         refine hK32 _ _ ?_
         refine wp_ret ?_
         refine c_ret1 rfl rfl ?_
         exact ⟨_, rfl, congrArg Value.bool (same_no2 hx29 hx30 (by omega)), hS28.drop⟩
        ·
         have hc31b := hc31
         try simp only [decide_eq_true_eq, decide_eq_false_iff_not, Bool.not_eq_true', Bool.not_eq_false', Bool.and_eq_true, Bool.or_eq_true, Int.not_lt, Int.not_le, ne_eq, Decidable.not_not] at hc31
         refine wp_skip ?_
         refine hK26 _ _ ?_
         refine wp_region_lit ?_
         refine l_q rfl rfl (q_moveI rfl) ?_
         refine l_q rfl rfl (q_addx rfl rfl (by first | decide | omega) (by first | decide | omega)) ?_
         refine l_q rfl rfl (q_assignI rfl) ?_
         refine l_nil ?_
         refine hK22 _ _ (came ((i + 1)) (by repeat' (first | exact Agree.refl _ _ | refine Agree.up ?_ rfl | refine Agree.hav2 ?_ rfl | refine Agree.ups2 ?_ rfl)) (by repeat' (first | exact trivial | refine ⟨by first | rfl | exact int_succ _ | assumption, ?_⟩)) ?_)
         exact ⟨⟨hS28, (by show i + 1 ≤ a.nd.length; omega), same_next hk hx29 hx30 (by omega)⟩, by (show a.nd.length - (i + 1) < a.nd.length - i); omega⟩
       ·
        have hc25b := hc25
        try simp only [decide_eq_true_eq, decide_eq_false_iff_not, Bool.not_eq_true', Bool.not_eq_false', Bool.and_eq_true, Bool.or_eq_true, Int.not_lt, Int.not_le, ne_eq, Decidable.not_not] at hc25
        refine wp_exit ?_
        refine hK20 _ _ ?_
        refine wp_seq_k (fun K33 hK33 => ?_)
        refine wp_region_lit ?_
        refine l_q rfl rfl (q_assignB rfl) ?_
        refine l_nil ?_
        refine hK33 _ _ ?_
        refine wp_ret ?_
        refine c_ret1 rfl rfl ?_
        have hii : i = a.nd.length := by omega
        rw [hii] at hk
        exact ⟨_, rfl, congrArg Value.bool (same_yes hab hk), hS22.drop⟩

end Go.Proofs.Ytlplhlncdfhhoaa
