/- FaultDeep: its walk. -/
import Derived.Test.YtdlmcgflgdmjgaaDoorF9
set_option linter.unusedVariables false
set_option linter.unusedSimpArgs false
namespace Go.Proofs.YtdlmcgflgdmjgaaDoor
open Go.RowKit
def wrapN (e : Er) : Nat → Er
  | 0 => e
  | j + 1 => (wrapN e j).wrap ((j + 1 : Nat) : Int) ((j + 1 : Nat) : Int)
theorem wrapN_good {e : Er} (h : e.Good) : ∀ j, (wrapN e j).Good
  | 0 => h
  | j + 1 => Er.good_wrap (wrapN_good h j) _ _
theorem wrapN_nil {e : Er} (h : e.isNil = true) : ∀ j, (wrapN e j).isNil = true
  | 0 => h
  | j + 1 => by unfold wrapN Er.wrap; rw [if_pos (.inl (wrapN_nil h j))]; exact wrapN_nil h j
theorem wrapN_some {e : Er} (h : e.isNil = false) : ∀ j, (wrapN e j).isNil = false ∧ (wrapN e j).list.length = e.list.length + j ∧ (wrapN e j).deep = e.deep + j ∧ (0 < j → (wrapN e j).first = some ((j : Int), (j : Int)))
  | 0 => ⟨h, rfl, rfl, fun h => by omega⟩
  | j + 1 => by
    obtain ⟨h1, h2, h3, _⟩ := wrapN_some h j
    have hc : ¬ ((wrapN e j).isNil = true ∨ ((j + 1 : Nat) : Int) = 0) := by
      rw [h1]; intro h; rcases h with h | h
      · cases h
      · omega
    have he : wrapN e (j + 1) = .flt ((j + 1 : Nat) : Int) ((j + 1 : Nat) : Int) (wrapN e j) := by
      show (wrapN e j).wrap _ _ = _
      unfold Er.wrap; rw [if_neg hc]
    rw [he]
    exact ⟨rfl, by simp [Er.list, h2]; omega, by simp [Er.deep, h3]; omega, fun _ => rfl⟩
attribute [local irreducible] Oper.wp Sem.run Code.wp wpList wpAnyO callFunc execOp Calls

set_option maxHeartbeats 8000000 in
set_option maxRecDepth 100000 in
theorem deepLaw_ok (sa : Option Addr) (sl sc : Nat) (n : Int) (hn0 : -9223372036854775808 ≤ n) (w : World) (hl : LaidV w) (hA : ActsR w sa sl) : Calls Tryd.prog 6 #[.slice sa sl sc, .int .i64 n] w (PostR w fun v => v = .bool true) := by
  have hS := St.start w
  refine c_enter Tryd.func6 rfl rfl rfl ?_
  refine wp_seq_k (fun K1 hK1 => ?_)
  refine wp_region_lit ?_
  first | refine l_q rfl rfl (q_assignB rfl) ?_ | refine l_q rfl rfl (q_assign rfl) ?_
  refine l_nil ?_
  refine hK1 _ _ ?_
  refine wp_seq_k (fun K2 hK2 => ?_)
  refine wp_region_lit ?_
  first | refine l_q rfl rfl (q_moveS rfl) ?_ | refine l_q rfl rfl (q_move rfl) ?_
  refine l_e rfl (fun K hK => ?_)
  refine e_call (by kernel_rfl) (built_ok sa sl sc _ hA) rfl (after_N hS (fun v3 G3 w3 hv3 hS3 => ?_))
  clear hS; obtain ⟨⟨k, m, ga, ac, gt, tc, bs, es, ss, vs, ts, rows⟩, hB, hk14, rfl, rfl⟩ := hv3
  have hm1 := hB.pos; have hm2 := hB.le; dsimp only [bG] at hS3 hm1 hm2 hk14; dsimp only
  have hS : St w (fun _ => False) [.pool bs es ss, .sl 29 1 (.slice (some ⟨ga, 0, none⟩) m ac) m vs, .sl 46 3 (.slice (some ⟨gt, 0, none⟩) m tc) m ts] w3 := hS3; clear hS3
  refine hK _ _ ?_; clear hK K
  refine l_q rfl rfl (q_move rfl) ?_
  refine l_q rfl rfl (q_extract rfl rfl) ?_
  refine l_q rfl rfl (q_extract rfl rfl) ?_
  first | refine l_q rfl rfl (q_assignS rfl) ?_ | refine l_q rfl rfl (q_assign rfl) ?_
  first | refine l_q rfl rfl (q_assignS rfl) ?_ | refine l_q rfl rfl (q_assign rfl) ?_
  refine l_nil ?_
  refine hK2 _ _ ?_
  refine wp_seq_k (fun K4 hK4 => ?_)
  refine wp_region_lit ?_
  obtain ⟨r, hr, hR, hrv, hrt⟩ := hB.atI (i := (m : Int) - 1) (by omega) (by (show (m : Int) - 1 < (m : Int)); omega); obtain ⟨hr1, hr2, hr3, hr4, hr5, hr6⟩ := id hR; obtain ⟨hr7, hr8⟩ := hR.small hk14; dsimp only at hr1 hr2 hr3 hr7 hr8
  first | refine l_q rfl rfl (q_moveS rfl) ?_ | refine l_q rfl rfl (q_move rfl) ?_
  first | refine l_q rfl rfl (q_moveS rfl) ?_ | refine l_q rfl rfl (q_move rfl) ?_
  refine l_q rfl rfl (q_lenSl (e := 29) rfl (by kernel_rfl)) ?_
  first | refine l_q rfl rfl (q_subx rfl rfl (by first | decide | omega) (by first | decide | omega)) ?_ | refine l_q rfl rfl (q_sub rfl rfl) ?_
  refine l_q rfl rfl (q_indexAddr (e := 29) (m := 1) rfl rfl (by kernel_rfl) (by kernel_rfl) (by first | decide | omega) (by first | decide | omega)) ?_
  refine l_q rfl rfl (q_load1 rfl (by kernel_rfl) (own_cellI (hS.sl (i := 1) rfl) hrv)) ?_
  refine l_q rfl rfl (q_assign rfl) ?_
  refine l_nil ?_
  refine hK4 _ _ ?_
  refine wp_seq_k (fun K5 hK5 => ?_)
  refine wp_region_lit ?_
  first | refine l_q rfl rfl (q_moveI rfl) ?_ | refine l_q rfl rfl (q_move rfl) ?_
  refine l_e rfl (fun K hK => ?_)
  refine e_call (by kernel_rfl) (pick_ok n 51 hn0 (by decide) _) rfl (after_R hS (fun v6 w6 hv6 hS6 => ?_))
  clear hS; obtain ⟨k2, rfl, hk2⟩ := hv6
  refine hK _ _ ?_; clear hK K
  first | refine l_q rfl rfl (q_assignI rfl) ?_ | refine l_q rfl rfl (q_assign rfl) ?_
  refine l_nil ?_
  refine hK5 _ _ ?_
  refine wp_seq_k (fun K7 hK7 => ?_)
  refine wp_region_lit ?_
  refine l_q rfl rfl (q_move rfl) ?_
  refine l_e rfl (fun K hK => ?_)
  refine e_call (by kernel_rfl) (Deep_ok r.e _ _ (by omega) (pool_er hS6 (i := 0) rfl hr1)) rfl (after_R hS6 (fun v8 w8 hv8 hS8 => ?_))
  clear hS6; replace hv8 := hv8.symm; subst hv8
  refine hK _ _ ?_; clear hK K
  first | refine l_q rfl rfl (q_assignI rfl) ?_ | refine l_q rfl rfl (q_assign rfl) ?_
  refine l_nil ?_
  refine hK7 _ _ ?_
  refine wp_seq_k (fun K9 hK9 => ?_)
  refine wp_region_lit ?_
  refine l_q rfl rfl (q_move rfl) ?_
  refine l_e rfl (fun K hK => ?_)
  refine e_call (by kernel_rfl) (Codes_ok r.e _ _ (by first | decide | omega) (hl.keep id hS8) (pool_er hS8 (i := 0) rfl hr1)) rfl (after_N hS8 (fun v10 G10 w10 hv10 hS10 => ?_))
  clear hS8; subst hv10; obtain ⟨pa, pc, rfl⟩ := own_slice (hS10.sl (i := 0) rfl)
  refine hK _ _ ?_; clear hK K
  refine l_q rfl rfl (q_lenSl (e := 23) rfl (by kernel_rfl)) ?_
  first | refine l_q rfl rfl (q_assignI rfl) ?_ | refine l_q rfl rfl (q_assign rfl) ?_
  refine l_nil ?_
  refine hK9 _ _ ?_
  refine wp_seq_k (fun K11 hK11 => ?_)
  refine wp_region_lit ?_
  refine l_q rfl rfl (q_move rfl) ?_
  refine l_q rfl rfl (q_assign rfl) ?_
  refine l_nil ?_
  refine hK11 _ _ ?_
  refine wp_seq_k (fun K12 hK12 => ?_)
  refine wp_seq_k (fun K13 hK13 => ?_)
  refine wp_region_lit ?_
  first | refine l_q rfl rfl (q_assignI rfl) ?_ | refine l_q rfl rfl (q_assign rfl) ?_
  refine l_nil ?_
  refine hK13 _ _ ?_
  refine wp_block ?_
  refine c_loop (τ := Nat × List Nat × List (Value × Er) × Value) [(10, 11), (32, 40)] (fun x => [(10, x.2.2.2), (11, .int .i64 ((x.1 + 1 : Nat) : Int))]) (fun x w' => St w (fun _ => False) [.pool x.2.1 x.2.2.1 ss] w' ∧ (x.2.2.2, wrapN r.e x.1) ∈ x.2.2.1 ∧ x.1 ≤ k2) (fun x => k2 - x.1) ((0, bs, es, r.v)) ?_ (by repeat' (first | exact trivial | refine ⟨by first | rfl | exact int_succ _, ?_⟩)) (fun x14 j14 w14 hJ14 K14 hK14 => ?_)
  ·
    exact ⟨hS10.sub (by repeat' (first | exact List.Sublist.refl _ | exact List.nil_sublist _ | apply List.Sublist.cons_cons | apply List.Sublist.cons)), hr1, Nat.zero_le _⟩
  ·
    obtain ⟨j, bs', es', wv⟩ := x14; obtain ⟨hS14, hmem, hj⟩ := hJ14; dsimp only at hmem hj hS14 ⊢
    refine wp_seq_k (fun K15 hK15 => ?_)
    refine wp_seq_k (fun K16 hK16 => ?_)
    refine wp_region_lit ?_
    first | refine l_q rfl rfl (q_moveI rfl) ?_ | refine l_q rfl rfl (q_move rfl) ?_
    first | refine l_q rfl rfl (q_moveI rfl) ?_ | refine l_q rfl rfl (q_move rfl) ?_
    refine l_q rfl rfl (q_leq rfl rfl) ?_
    refine l_nil ?_
    refine hK16 _ _ ?_
    refine c_cond rfl (fun hc17 => ?_) (fun hc17 => ?_)
    ·
      have hc17b := hc17
      try simp only [decide_eq_true_eq, decide_eq_false_iff_not, Bool.not_eq_true', Bool.not_eq_false', Bool.and_eq_true, Bool.or_eq_true, Int.not_lt, Int.not_le, ne_eq, Decidable.not_not] at hc17
      have hjn := hc17
      refine wp_skip ?_
      refine hK15 _ _ ?_
      refine wp_seq_k (fun K18 hK18 => ?_)
      refine wp_block ?_
      refine wp_region_lit ?_
      refine l_q rfl rfl (q_move rfl) ?_
      first | refine l_q rfl rfl (q_moveI rfl) ?_ | refine l_q rfl rfl (q_move rfl) ?_
      first | refine l_q rfl rfl (q_moveI rfl) ?_ | refine l_q rfl rfl (q_move rfl) ?_
      refine l_e rfl (fun K hK => ?_)
      refine e_call (by kernel_rfl) (Wrap_pool (St.begin (Γ := [_]) (F := []) hS14) _ _ hmem _ _) rfl (after_M (Γ1 := [_]) (F := []) hS14 (fun v19 G19 w19 hv19 hS19 => ?_))
      clear hS14; obtain ⟨bs1, es1, ss1, ⟨he1, hs1⟩, rfl⟩ := hv19; subst he1; replace hs1 := hs1.symm; subst hs1
      refine hK _ _ ?_; clear hK K
      refine l_q rfl rfl (q_assign rfl) ?_
      refine l_nil ?_
      refine hK18 _ _ ?_
      refine wp_region_lit ?_
      first | refine l_q rfl rfl (q_moveI rfl) ?_ | refine l_q rfl rfl (q_move rfl) ?_
      first | refine l_q rfl rfl (q_addx rfl rfl (by first | decide | omega) (by first | decide | omega)) ?_ | refine l_q rfl rfl (q_add rfl rfl) ?_
      first | refine l_q rfl rfl (q_assignI rfl) ?_ | refine l_q rfl rfl (q_assign rfl) ?_
      refine l_nil ?_
      refine hK14 _ _ (came ((j + 1, bs1, (v19, wrapN r.e (j + 1)) :: es', v19)) (by repeat' (first | exact Agree.refl _ _ | refine Agree.up ?_ rfl | refine Agree.hav2 ?_ rfl | refine Agree.ups2 ?_ rfl)) (by repeat' (first | exact trivial | refine ⟨by first | rfl | exact int_succ _, ?_⟩)) ?_)
      exact ⟨⟨hS19, .head _, by (show j + 1 ≤ k2); omega⟩, by (show k2 - (j + 1) < k2 - j); omega⟩
    ·
      have hc17b := hc17
      try simp only [decide_eq_true_eq, decide_eq_false_iff_not, Bool.not_eq_true', Bool.not_eq_false', Bool.and_eq_true, Bool.or_eq_true, Int.not_lt, Int.not_le, ne_eq, Decidable.not_not] at hc17
      have hjn := hc17
      obtain rfl : j = k2 := by omega
      refine wp_exit ?_
      refine hK12 _ _ ?_
      refine wp_seq_k (fun K20 hK20 => ?_)
      refine wp_region_lit ?_
      refine l_q rfl rfl (q_move rfl) ?_
      refine l_q rfl rfl (q_move rfl) ?_
      refine l_e rfl (fun K hK => ?_)
      refine e_call (by kernel_rfl) (Join_pool (St.begin (Γ := [_]) (F := []) hS14) _ _ _ _ hmem hmem) rfl (after_M (Γ1 := [_]) (F := []) hS14 (fun jv G21 w21 hv21 hS21 => ?_))
      clear hS14; obtain ⟨bs1, es1, ss1, ⟨he1, hs1⟩, rfl⟩ := hv21; subst he1; replace hs1 := hs1.symm; subst hs1
      have hWE := pool_er hS21 (i := 0) rfl (.tail _ hmem); have hJE := pool_er hS21 (i := 0) rfl (.head _)
      have hwi := hWE.isIf; have hji := hJE.isIf; have hGW := wrapN_good hr4 j; have hGJ := Er.good_join hGW hGW
      refine hK _ _ ?_; clear hK K
      refine l_q rfl rfl (q_assign rfl) ?_
      refine l_nil ?_
      refine hK20 _ _ ?_
      refine wp_seq_k (fun K22 hK22 => ?_)
      refine wp_seq_k (fun K23 hK23 => ?_)
      refine wp_region_lit ?_
      first | refine l_q rfl rfl (q_moveI rfl) ?_ | refine l_q rfl rfl (q_move rfl) ?_
      refine l_q rfl rfl (q_eql rfl rfl) ?_
      refine l_nil ?_
      refine hK23 _ _ ?_
      refine c_cond rfl (fun hc24 => ?_) (fun hc24 => ?_)
      ·
        have hc24b := hc24
        try simp only [decide_eq_true_eq, decide_eq_false_iff_not, Bool.not_eq_true', Bool.not_eq_false', Bool.and_eq_true, Bool.or_eq_true, Int.not_lt, Int.not_le, ne_eq, Decidable.not_not] at hc24
        have hz := hc24
        have hen := (Er.list_nil hr4).1 (List.eq_nil_of_length_eq_zero (by omega))
        have hwn := hWE.isNil.trans (wrapN_nil hen j)
        have hjn2 : isNilB jv = true := hJE.isNil.trans (by rw [Er.join, if_pos (wrapN_nil hen j)]; exact wrapN_nil hen j)
        refine wp_seq_k (fun K25 hK25 => ?_)
        refine wp_region_lit ?_
        refine l_e rfl (fun K hK => ?_)
        refine e_call (by kernel_rfl) (alive_ok _ (hl.keep id hS21)) rfl (after_R hS21 (fun v26 w26 hv26 hS26 => ?_))
        clear hS21; replace hv26 := hv26.symm; subst hv26
        refine hK _ _ ?_; clear hK K
        first | refine l_q rfl rfl (q_moveB rfl) ?_ | refine l_q rfl rfl (q_move rfl) ?_
        refine l_on rfl rfl rfl ?_
        refine l_q rfl rfl (q_move rfl) ?_
        refine l_on rfl rfl rfl ?_
        first | refine l_q rfl rfl (q_ieq0 rfl (by kernel_rfl)) ?_ | refine l_q rfl rfl (q_ieq1 rfl (by kernel_rfl)) ?_ | refine l_q rfl rfl (q_ieq rfl (by assumption) (by kernel_rfl)) ?_
        refine l_q rfl rfl (q_pickT rfl rfl rfl) ?_
        first | refine l_q rfl rfl (q_moveB rfl) ?_ | refine l_q rfl rfl (q_move rfl) ?_
        refine l_on rfl rfl hwn ?_
        refine l_q rfl rfl (q_move rfl) ?_
        refine l_on rfl rfl hwn ?_
        first | refine l_q rfl rfl (q_ieq0 rfl (by kernel_rfl)) ?_ | refine l_q rfl rfl (q_ieq1 rfl (by kernel_rfl)) ?_ | refine l_q rfl rfl (q_ieq rfl (by assumption) (by kernel_rfl)) ?_
        refine l_q rfl rfl (q_pickT rfl hwn rfl) ?_
        first | refine l_q rfl rfl (q_assignB rfl) ?_ | refine l_q rfl rfl (q_assign rfl) ?_
        refine l_nil ?_
        refine hK25 _ _ ?_
        refine wp_ret ?_
        refine c_ret1 rfl rfl ?_
        exact ⟨_, rfl, (show _ = Value.bool (isNilB jv) from rfl).trans (by rw [hjn2]), hS26.drop⟩
      ·
        have hc24b := hc24
        try simp only [decide_eq_true_eq, decide_eq_false_iff_not, Bool.not_eq_true', Bool.not_eq_false', Bool.and_eq_true, Bool.or_eq_true, Int.not_lt, Int.not_le, ne_eq, Decidable.not_not] at hc24
        have hz := hc24
        have hen : r.e.isNil = false := by cases h : r.e.isNil; rfl; exact absurd (by rw [(Er.list_nil hr4).2 h]; rfl) hz
        obtain ⟨f1, f2, f3, f4⟩ := wrapN_some hen j
        have h1 : ((wrapN r.e j).list.length : Int) = (r.e.list.length : Int) + (j : Int) := by omega
        have h2 : ((wrapN r.e j).deep : Int) = (r.e.deep : Int) + (j : Int) := by omega
        have h5 : ((Er.join (wrapN r.e j) (wrapN r.e j)).list.length : Int) = 2 * ((r.e.list.length : Int) + (j : Int)) := by rw [Er.list_join, List.length_append]; omega
        have h6 : ((Er.join (wrapN r.e j) (wrapN r.e j)).deep : Int) = (r.e.deep : Int) + (j : Int) := by rw [Er.deep_join]; omega
        refine wp_skip ?_
        refine hK22 _ _ ?_
        refine wp_seq_k (fun K27 hK27 => ?_)
        refine wp_region_lit ?_
        refine l_e rfl (fun K hK => ?_)
        refine e_call (by kernel_rfl) (alive_ok _ (hl.keep id hS21)) rfl (after_R hS21 (fun v28 w28 hv28 hS28 => ?_))
        clear hS21; replace hv28 := hv28.symm; subst hv28
        refine hK _ _ ?_; clear hK K
        first | refine l_q rfl rfl (q_moveB rfl) ?_ | refine l_q rfl rfl (q_move rfl) ?_
        refine l_on rfl rfl rfl ?_
        refine l_q rfl rfl (q_move rfl) ?_
        refine l_on rfl rfl rfl ?_
        refine l_e rfl (fun K hK => ?_)
        refine e_call (by kernel_rfl) (Codes_ok (wrapN r.e j) _ _ (by first | decide | omega) (hl.keep id hS28) (pool_er hS28 (i := 0) rfl (.tail _ hmem))) rfl (after_N hS28 (fun v29 G29 w29 hv29 hS29 => ?_))
        clear hS28; subst hv29; obtain ⟨qa, qc, rfl⟩ := own_slice (hS29.sl (i := 0) rfl)
        refine hK _ _ ?_; clear hK K
        refine l_on rfl rfl rfl ?_
        refine l_q rfl rfl (q_lenSl (e := 23) rfl (by kernel_rfl)) ?_
        refine l_on rfl rfl rfl ?_
        first | refine l_q rfl rfl (q_moveI rfl) ?_ | refine l_q rfl rfl (q_move rfl) ?_
        refine l_on rfl rfl rfl ?_
        first | refine l_q rfl rfl (q_moveI rfl) ?_ | refine l_q rfl rfl (q_move rfl) ?_
        refine l_on rfl rfl rfl ?_
        first | refine l_q rfl rfl (q_addx rfl rfl (by first | decide | omega) (by first | decide | omega)) ?_ | refine l_q rfl rfl (q_add rfl rfl) ?_
        refine l_on rfl rfl rfl ?_
        refine l_q rfl rfl (q_eql rfl rfl) ?_
        refine l_q rfl rfl (q_pickT rfl rfl rfl) ?_
        first | refine l_q rfl rfl (q_moveB rfl) ?_ | refine l_q rfl rfl (q_move rfl) ?_
        refine l_on rfl rfl (decide_eq_true h1) ?_
        refine l_q rfl rfl (q_move rfl) ?_
        refine l_on rfl rfl (decide_eq_true h1) ?_
        refine l_e rfl (fun K hK => ?_)
        refine e_call (by kernel_rfl) (Deep_ok (wrapN r.e j) _ _ (by omega) (pool_er hS29 (i := 1) rfl (.tail _ hmem))) rfl (after_R hS29 (fun v30 w30 hv30 hS30 => ?_))
        clear hS29; replace hv30 := hv30.symm; subst hv30
        refine hK _ _ ?_; clear hK K
        refine l_on rfl rfl (decide_eq_true h1) ?_
        first | refine l_q rfl rfl (q_moveI rfl) ?_ | refine l_q rfl rfl (q_move rfl) ?_
        refine l_on rfl rfl (decide_eq_true h1) ?_
        first | refine l_q rfl rfl (q_moveI rfl) ?_ | refine l_q rfl rfl (q_move rfl) ?_
        refine l_on rfl rfl (decide_eq_true h1) ?_
        first | refine l_q rfl rfl (q_addx rfl rfl (by first | decide | omega) (by first | decide | omega)) ?_ | refine l_q rfl rfl (q_add rfl rfl) ?_
        refine l_on rfl rfl (decide_eq_true h1) ?_
        refine l_q rfl rfl (q_eql rfl rfl) ?_
        refine l_q rfl rfl (q_pickT rfl (decide_eq_true h1) rfl) ?_
        first | refine l_q rfl rfl (q_moveB rfl) ?_ | refine l_q rfl rfl (q_move rfl) ?_
        refine l_on rfl rfl (decide_eq_true h2) ?_
        first | refine l_q rfl rfl (q_moveI rfl) ?_ | refine l_q rfl rfl (q_move rfl) ?_
        refine l_on rfl rfl (decide_eq_true h2) ?_
        refine l_q rfl rfl (q_eql rfl rfl) ?_
        refine l_on rfl rfl (decide_eq_true h2) ?_
        first | refine l_q rfl rfl (q_moveB rfl) ?_ | refine l_q rfl rfl (q_move rfl) ?_
        refine g_splitL (t := 76) rfl (fun hg31 => ?_) (fun hg31 => ?_)
        ·
          have hg31b := hg31
          try simp only [decide_eq_true_eq, decide_eq_false_iff_not, Bool.not_eq_true', Bool.not_eq_false', Bool.and_eq_true, Bool.or_eq_true, Int.not_lt, Int.not_le, ne_eq, Decidable.not_not] at hg31
          refine l_off rfl rfl rfl hg31b ?_
          refine l_off rfl rfl rfl hg31b ?_
          refine l_off rfl rfl rfl hg31b ?_
          refine l_off rfl rfl rfl hg31b ?_
          refine l_off rfl rfl rfl hg31b ?_
          refine l_offN rfl rfl rfl ?_
          refine l_offN rfl rfl rfl ?_
          refine l_offN rfl rfl rfl ?_
          refine l_offN rfl rfl rfl ?_
          refine l_off rfl rfl rfl hg31b ?_
          refine l_on rfl rfl (decide_eq_true h2) ?_
          refine l_q rfl rfl (q_pickT rfl hg31b rfl) ?_
          refine l_q rfl rfl (q_pickT rfl (decide_eq_true h2) rfl) ?_
          first | refine l_q rfl rfl (q_moveB rfl) ?_ | refine l_q rfl rfl (q_move rfl) ?_
          refine l_on rfl rfl rfl ?_
          refine l_q rfl rfl (q_move rfl) ?_
          refine l_on rfl rfl rfl ?_
          refine l_e rfl (fun K hK => ?_)
          refine e_call (by kernel_rfl) (Codes_ok (Er.join (wrapN r.e j) (wrapN r.e j)) _ _ (by first | decide | omega) (hl.keep id hS30) (pool_er hS30 (i := 1) rfl (.head _))) rfl (after_N hS30 (fun v32 G32 w32 hv32 hS32 => ?_))
          clear hS30; subst hv32; obtain ⟨sa, sc, rfl⟩ := own_slice (hS32.sl (i := 0) rfl)
          refine hK _ _ ?_; clear hK K
          refine l_on rfl rfl rfl ?_
          refine l_q rfl rfl (q_lenSl (e := 23) rfl (by kernel_rfl)) ?_
          refine l_on rfl rfl rfl ?_
          first | refine l_q rfl rfl (q_moveI rfl) ?_ | refine l_q rfl rfl (q_move rfl) ?_
          refine l_on rfl rfl rfl ?_
          first | refine l_q rfl rfl (q_moveI rfl) ?_ | refine l_q rfl rfl (q_move rfl) ?_
          refine l_on rfl rfl rfl ?_
          first | refine l_q rfl rfl (q_addx rfl rfl (by first | decide | omega) (by first | decide | omega)) ?_ | refine l_q rfl rfl (q_add rfl rfl) ?_
          refine l_on rfl rfl rfl ?_
          first | refine l_q rfl rfl (q_mulx rfl rfl (by first | decide | omega) (by first | decide | omega)) ?_ | refine l_q rfl rfl (q_mul rfl rfl) ?_
          refine l_on rfl rfl rfl ?_
          refine l_q rfl rfl (q_eql rfl rfl) ?_
          refine l_q rfl rfl (q_pickT rfl rfl rfl) ?_
          first | refine l_q rfl rfl (q_moveB rfl) ?_ | refine l_q rfl rfl (q_move rfl) ?_
          refine l_on rfl rfl (decide_eq_true h5) ?_
          refine l_q rfl rfl (q_move rfl) ?_
          refine l_on rfl rfl (decide_eq_true h5) ?_
          refine l_e rfl (fun K hK => ?_)
          refine e_call (by kernel_rfl) (Deep_ok (Er.join (wrapN r.e j) (wrapN r.e j)) _ _ (by omega) (pool_er hS32 (i := 2) rfl (.head _))) rfl (after_R hS32 (fun v33 w33 hv33 hS33 => ?_))
          clear hS32; replace hv33 := hv33.symm; subst hv33
          refine hK _ _ ?_; clear hK K
          refine l_on rfl rfl (decide_eq_true h5) ?_
          first | refine l_q rfl rfl (q_moveI rfl) ?_ | refine l_q rfl rfl (q_move rfl) ?_
          refine l_on rfl rfl (decide_eq_true h5) ?_
          first | refine l_q rfl rfl (q_moveI rfl) ?_ | refine l_q rfl rfl (q_move rfl) ?_
          refine l_on rfl rfl (decide_eq_true h5) ?_
          first | refine l_q rfl rfl (q_addx rfl rfl (by first | decide | omega) (by first | decide | omega)) ?_ | refine l_q rfl rfl (q_add rfl rfl) ?_
          refine l_on rfl rfl (decide_eq_true h5) ?_
          refine l_q rfl rfl (q_eql rfl rfl) ?_
          refine l_q rfl rfl (q_pickT rfl (decide_eq_true h5) rfl) ?_
          first | refine l_q rfl rfl (q_assignB rfl) ?_ | refine l_q rfl rfl (q_assign rfl) ?_
          refine l_nil ?_
          refine hK27 _ _ ?_
          refine wp_ret ?_
          refine c_ret1 rfl rfl ?_
          exact ⟨_, rfl, (show _ = Value.bool (decide (((Er.join (wrapN r.e j) (wrapN r.e j)).deep : Int) = (r.e.deep : Int) + (j : Int))) from rfl).trans (by rw [decide_eq_true h6]), hS33.drop⟩
        ·
          have hg31b := hg31
          try simp only [decide_eq_true_eq, decide_eq_false_iff_not, Bool.not_eq_true', Bool.not_eq_false', Bool.and_eq_true, Bool.or_eq_true, Int.not_lt, Int.not_le, ne_eq, Decidable.not_not] at hg31
          have hj0 : 0 < j := by omega
          have h3 : cod (wrapN r.e j) = (j : Int) := by rw [cod, f4 hj0]
          have h4 : plc (wrapN r.e j) = (j : Int) := by rw [plc, f4 hj0]
          refine l_on rfl rfl hg31b ?_
          refine l_q rfl rfl (q_move rfl) ?_
          refine l_on rfl rfl hg31b ?_
          refine l_e rfl (fun K hK => ?_)
          refine e_call (by kernel_rfl) (Code_ok (wrapN r.e j) hGW _ _ (hl.keep id hS30) (pool_er hS30 (i := 1) rfl (.tail _ hmem))) rfl (after_R hS30 (fun v34 w34 hv34 hS34 => ?_))
          clear hS30; replace hv34 := hv34.symm; subst hv34
          refine hK _ _ ?_; clear hK K
          refine l_on rfl rfl hg31b ?_
          first | refine l_q rfl rfl (q_moveI rfl) ?_ | refine l_q rfl rfl (q_move rfl) ?_
          refine l_on rfl rfl hg31b ?_
          refine l_q rfl rfl (q_eql rfl rfl) ?_
          refine l_on rfl rfl hg31b ?_
          first | refine l_q rfl rfl (q_moveB rfl) ?_ | refine l_q rfl rfl (q_move rfl) ?_
          refine l_on rfl rfl (decide_eq_true h3) ?_
          refine l_q rfl rfl (q_move rfl) ?_
          refine l_on rfl rfl (decide_eq_true h3) ?_
          refine l_e rfl (fun K hK => ?_)
          refine e_call (by kernel_rfl) (At_ok (wrapN r.e j) hGW _ _ (hl.keep id hS34) (pool_er hS34 (i := 1) rfl (.tail _ hmem))) rfl (after_R hS34 (fun v35 w35 hv35 hS35 => ?_))
          clear hS34; replace hv35 := hv35.symm; subst hv35
          refine hK _ _ ?_; clear hK K
          refine l_on rfl rfl (decide_eq_true h3) ?_
          first | refine l_q rfl rfl (q_moveI rfl) ?_ | refine l_q rfl rfl (q_move rfl) ?_
          refine l_on rfl rfl (decide_eq_true h3) ?_
          refine l_q rfl rfl (q_eql rfl rfl) ?_
          refine l_on rfl rfl hg31b ?_
          refine l_q rfl rfl (q_pickT rfl (decide_eq_true h3) rfl) ?_
          refine l_on rfl rfl (decide_eq_true h2) ?_
          refine l_q rfl rfl (q_pickF rfl hg31b rfl) ?_
          refine l_q rfl rfl (q_pickT rfl (decide_eq_true h2) rfl) ?_
          first | refine l_q rfl rfl (q_moveB rfl) ?_ | refine l_q rfl rfl (q_move rfl) ?_
          refine l_on rfl rfl (decide_eq_true h4) ?_
          refine l_q rfl rfl (q_move rfl) ?_
          refine l_on rfl rfl (decide_eq_true h4) ?_
          refine l_e rfl (fun K hK => ?_)
          refine e_call (by kernel_rfl) (Codes_ok (Er.join (wrapN r.e j) (wrapN r.e j)) _ _ (by first | decide | omega) (hl.keep id hS35) (pool_er hS35 (i := 1) rfl (.head _))) rfl (after_N hS35 (fun v36 G36 w36 hv36 hS36 => ?_))
          clear hS35; subst hv36; obtain ⟨sa, sc, rfl⟩ := own_slice (hS36.sl (i := 0) rfl)
          refine hK _ _ ?_; clear hK K
          refine l_on rfl rfl (decide_eq_true h4) ?_
          refine l_q rfl rfl (q_lenSl (e := 23) rfl (by kernel_rfl)) ?_
          refine l_on rfl rfl (decide_eq_true h4) ?_
          first | refine l_q rfl rfl (q_moveI rfl) ?_ | refine l_q rfl rfl (q_move rfl) ?_
          refine l_on rfl rfl (decide_eq_true h4) ?_
          first | refine l_q rfl rfl (q_moveI rfl) ?_ | refine l_q rfl rfl (q_move rfl) ?_
          refine l_on rfl rfl (decide_eq_true h4) ?_
          first | refine l_q rfl rfl (q_addx rfl rfl (by first | decide | omega) (by first | decide | omega)) ?_ | refine l_q rfl rfl (q_add rfl rfl) ?_
          refine l_on rfl rfl (decide_eq_true h4) ?_
          first | refine l_q rfl rfl (q_mulx rfl rfl (by first | decide | omega) (by first | decide | omega)) ?_ | refine l_q rfl rfl (q_mul rfl rfl) ?_
          refine l_on rfl rfl (decide_eq_true h4) ?_
          refine l_q rfl rfl (q_eql rfl rfl) ?_
          refine l_q rfl rfl (q_pickT rfl (decide_eq_true h4) rfl) ?_
          first | refine l_q rfl rfl (q_moveB rfl) ?_ | refine l_q rfl rfl (q_move rfl) ?_
          refine l_on rfl rfl (decide_eq_true h5) ?_
          refine l_q rfl rfl (q_move rfl) ?_
          refine l_on rfl rfl (decide_eq_true h5) ?_
          refine l_e rfl (fun K hK => ?_)
          refine e_call (by kernel_rfl) (Deep_ok (Er.join (wrapN r.e j) (wrapN r.e j)) _ _ (by omega) (pool_er hS36 (i := 2) rfl (.head _))) rfl (after_R hS36 (fun v37 w37 hv37 hS37 => ?_))
          clear hS36; replace hv37 := hv37.symm; subst hv37
          refine hK _ _ ?_; clear hK K
          refine l_on rfl rfl (decide_eq_true h5) ?_
          first | refine l_q rfl rfl (q_moveI rfl) ?_ | refine l_q rfl rfl (q_move rfl) ?_
          refine l_on rfl rfl (decide_eq_true h5) ?_
          first | refine l_q rfl rfl (q_moveI rfl) ?_ | refine l_q rfl rfl (q_move rfl) ?_
          refine l_on rfl rfl (decide_eq_true h5) ?_
          first | refine l_q rfl rfl (q_addx rfl rfl (by first | decide | omega) (by first | decide | omega)) ?_ | refine l_q rfl rfl (q_add rfl rfl) ?_
          refine l_on rfl rfl (decide_eq_true h5) ?_
          refine l_q rfl rfl (q_eql rfl rfl) ?_
          refine l_q rfl rfl (q_pickT rfl (decide_eq_true h5) rfl) ?_
          first | refine l_q rfl rfl (q_assignB rfl) ?_ | refine l_q rfl rfl (q_assign rfl) ?_
          refine l_nil ?_
          refine hK27 _ _ ?_
          refine wp_ret ?_
          refine c_ret1 rfl rfl ?_
          exact ⟨_, rfl, (show _ = Value.bool (decide (((Er.join (wrapN r.e j) (wrapN r.e j)).deep : Int) = (r.e.deep : Int) + (j : Int))) from rfl).trans (by rw [decide_eq_true h6]), hS37.drop⟩

end Go.Proofs.YtdlmcgflgdmjgaaDoor
