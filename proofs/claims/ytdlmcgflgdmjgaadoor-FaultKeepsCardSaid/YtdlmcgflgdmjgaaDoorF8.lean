/- law01's built: a script's errors, and the document's. -/
import Derived.Test.YtdlmcgflgdmjgaaDoorF8a
set_option linter.unusedVariables false
set_option linter.unusedSimpArgs false
namespace Go.Proofs.YtdlmcgflgdmjgaaDoor
open Go.RowKit
attribute [local irreducible] Oper.wp Sem.run Code.wp wpList wpAnyO callFunc execOp Calls

set_option maxHeartbeats 4000000 in
set_option maxRecDepth 100000 in
theorem built_ok (sa : Option Addr) (sl sc : Nat) (w : World) (hA : ActsR w sa sl) : Calls Tryd.prog 14 #[.slice sa sl sc] w (PostN w fun v G => ∃ x, BOk x ∧ x.k ≤ 14 ∧ v = .tuple #[.slice (some ⟨x.ga, 0, none⟩) x.m x.ac, .slice (some ⟨x.gt, 0, none⟩) x.m x.tc] ∧ G = bG x) := by
  have hS := St.start w
  refine c_enter Tryd.func14 rfl rfl rfl ?_
  refine wp_seq_k (fun K1 hK1 => ?_)
  refine wp_region_lit ?_
  first | refine l_q rfl rfl (q_assignS rfl) ?_ | refine l_q rfl rfl (q_assign rfl) ?_
  first | refine l_q rfl rfl (q_assignS rfl) ?_ | refine l_q rfl rfl (q_assign rfl) ?_
  refine l_nil ?_
  refine hK1 _ _ ?_
  refine wp_seq_k (fun K2 hK2 => ?_)
  refine wp_region_lit ?_
  refine l_e rfl (fun K hK => ?_)
  refine e_buildSlice1 (e := 29) (zv := .nilIface) (xs := [_]) hS (by kernel_rfl) (by kernel_rfl) (by kernel_rfl) rfl rfl rfl rfl (ones1 (by first | rfl | assumption)) rfl (fun b3 w3 hS3 => ?_)
  clear hS
  have hS3o := hS3.sl_at (i := 0) (size := 1) (m := 1) rfl rfl (by unfold maxLen; omega); clear hS3
  refine hK _ _ ?_; clear hK K
  first | refine l_q rfl rfl (q_assignS rfl) ?_ | refine l_q rfl rfl (q_assign rfl) ?_
  refine l_nil ?_
  refine hK2 _ _ ?_
  refine wp_seq_k (fun K4 hK4 => ?_)
  refine wp_region_lit ?_
  refine l_q rfl rfl (q_build (ps := [(0, 1), (1, 1), (2, 1)]) (zv := .agg #[.slice none 0 0, .slice none 0 0, .int .i64 0]) (by kernel_rfl) (by kernel_rfl) rfl (by repeat' (first | exact trivial | refine ⟨fun _ => by first | rfl | assumption | exact one_if (by assumption), ?_⟩ | refine ⟨fun ⟨_, h⟩ => by simp at h, ?_⟩)) rfl) ?_
  refine l_e rfl (fun K hK => ?_)
  refine e_buildSliceA (e := 46) (m := 3) (zv := .agg #[.slice none 0 0, .slice none 0 0, .int .i64 0]) hS3o (by kernel_rfl) (by kernel_rfl) (by kernel_rfl) rfl rfl rfl rfl (fun b5 w5 hS5 => ?_)
  clear hS3o
  refine hK _ _ ?_; clear hK K
  have hQ0 := hS5.sl_at (i := 0) (size := 3) (m := 1) rfl rfl (by unfold maxLen; omega); clear hS5
  have hQ := pool_start hQ0; clear hQ0
  first | refine l_q rfl rfl (q_assignS rfl) ?_ | refine l_q rfl rfl (q_assign rfl) ?_
  refine l_nil ?_
  refine hK4 _ _ ?_
  refine wp_seq_k (fun K6 hK6 => ?_)
  refine wp_seq_k (fun K7 hK7 => ?_)
  refine wp_region_lit ?_
  first | refine l_q rfl rfl (q_assignI rfl) ?_ | refine l_q rfl rfl (q_assign rfl) ?_
  refine l_nil ?_
  refine hK7 _ _ ?_
  refine wp_block ?_
  refine c_loop (τ := BS) [(4, 9), (13, 108)] (fun x => [(4, .slice (some ⟨x.ga, 0, none⟩) x.m x.ac), (5, .slice (some ⟨x.gt, 0, none⟩) x.m x.tc), (6, .int .i64 x.k)]) (fun x w' => St w (fun _ => False) (bG x) w' ∧ BOk x ∧ x.k ≤ 14) (fun x => 14 - x.k) (⟨0, 1, _, 1, _, 1, [], [(.nilIface, .nil)], [(none, [])], [.nilIface], [.slice none 0 0, .slice none 0 0, .int .i64 0], [⟨.nilIface, .nil, none, none, 0, 0⟩]⟩) ?_ (by repeat' (first | exact trivial | refine ⟨by first | rfl | exact int_succ _, ?_⟩)) (fun x8 j8 w8 hJ8 K8 hK8 => ?_)
  ·
    exact ⟨hQ, bok_start _ _ _ _, Nat.zero_le _⟩
  ·
    rcases x8 with ⟨k, m, ga, ac, gt, tc, bs, es, ss, vs, ts, rows⟩
    obtain ⟨hS8, hB, hk14'⟩ := hJ8
    dsimp only at hk14'
    dsimp only [bG] at hS8
    have hm1 := hB.pos; have hm2 := hB.le; dsimp only at hm1 hm2
    have hp14 := pow14 hk14'
    dsimp only
    refine wp_seq_k (fun K9 hK9 => ?_)
    refine wp_seq_k (fun K10 hK10 => ?_)
    refine wp_region_lit ?_
    first | refine l_q rfl rfl (q_moveI rfl) ?_ | refine l_q rfl rfl (q_move rfl) ?_
    first | refine l_q rfl rfl (q_moveS rfl) ?_ | refine l_q rfl rfl (q_move rfl) ?_
    refine l_q rfl rfl (q_lenSl (e := 80) rfl (by kernel_rfl)) ?_
    refine l_q rfl rfl (q_lss rfl rfl) ?_
    first | refine l_q rfl rfl (q_moveB rfl) ?_ | refine l_q rfl rfl (q_move rfl) ?_
    refine g_splitL (t := 17) rfl (fun hg11 => ?_) (fun hg11 => ?_)
    ·
      have hg11b := hg11
      try simp only [decide_eq_true_eq, decide_eq_false_iff_not, Bool.not_eq_true', Bool.not_eq_false', Bool.and_eq_true, Bool.or_eq_true, Int.not_lt, Int.not_le, ne_eq, Decidable.not_not] at hg11
      refine l_on rfl rfl hg11b ?_
      first | refine l_q rfl rfl (q_moveI rfl) ?_ | refine l_q rfl rfl (q_move rfl) ?_
      refine l_on rfl rfl hg11b ?_
      refine l_q rfl rfl (q_lss rfl rfl) ?_
      refine l_q rfl rfl (q_pickT rfl hg11b rfl) ?_
      refine l_nil ?_
      refine hK10 _ _ ?_
      refine c_cond rfl (fun hc12 => ?_) (fun hc12 => ?_)
      ·
        have hc12b := hc12
        try simp only [decide_eq_true_eq, decide_eq_false_iff_not, Bool.not_eq_true', Bool.not_eq_false', Bool.and_eq_true, Bool.or_eq_true, Int.not_lt, Int.not_le, ne_eq, Decidable.not_not] at hc12
        have hk14 := hc12
        refine wp_skip ?_
        refine hK9 _ _ ?_
        refine c_cut (τ := BS) [(4, 5), (7, 9), (23, 108)] (fun x => [(4, .slice (some ⟨x.ga, 0, none⟩) x.m x.ac), (5, .slice (some ⟨x.gt, 0, none⟩) x.m x.tc)]) (fun x w' => St w (fun _ => False) (bG x) w' ∧ BOk { x with k := k + 1 }) (fun K14 hK14 => ?_) (fun x14 j14 w14 hJ14 => ?_)
        ·
          refine wp_block ?_
          refine wp_seq_k (fun K15 hK15 => ?_)
          refine wp_region_lit ?_
          obtain ⟨sb, so, ak, ap, aq, acd, aat, rfl, hsb, hap, haq, hcells⟩ := hA k (by omega)
          first | refine l_q rfl rfl (q_moveS rfl) ?_ | refine l_q rfl rfl (q_move rfl) ?_
          first | refine l_q rfl rfl (q_moveI rfl) ?_ | refine l_q rfl rfl (q_move rfl) ?_
          refine l_q rfl rfl (q_indexAddr (e := 80) (m := 5) rfl rfl (by kernel_rfl) (by kernel_rfl) (by first | decide | omega) (by first | decide | omega)) ?_
          refine l_q rfl rfl (q_loadCs (cs := [.int .i64 ak, .int .i64 ap, .int .i64 aq, .int .i64 acd, .int .i64 aat]) rfl (by kernel_rfl) (by kernel_rfl) (fun j u hu => (World.cell?_of_block (w := w) (hsb.same hS8)).trans (hcells j u hu))) ?_
          refine l_e rfl (fun K hK => ?_)
          refine e_alloc (zv := .agg #[.int .i64 0, .int .i64 0, .int .i64 0, .int .i64 0, .int .i64 0]) hS8 (by kernel_rfl) (fun b16 w16 hS16 => ?_)
          clear hS8
          refine hK _ _ ?_; clear hK K
          refine l_e rfl (fun K hK => ?_)
          first | refine e_storeA hS16 rfl rfl (by kernel_rfl) (by repeat' (first | exact trivial | refine ⟨by first | rfl | assumption | exact one_if (by assumption), ?_⟩)) (i := 0) rfl rfl (fun w17 hS17 => ?_) | refine e_storeA hS16 rfl rfl (by kernel_rfl) (by repeat' (first | exact trivial | refine ⟨by first | rfl | assumption | exact one_if (by assumption), ?_⟩)) (i := 1) rfl rfl (fun w17 hS17 => ?_) | refine e_storeA hS16 rfl rfl (by kernel_rfl) (by repeat' (first | exact trivial | refine ⟨by first | rfl | assumption | exact one_if (by assumption), ?_⟩)) (i := 2) rfl rfl (fun w17 hS17 => ?_) | refine e_storeA hS16 rfl rfl (by kernel_rfl) (by repeat' (first | exact trivial | refine ⟨by first | rfl | assumption | exact one_if (by assumption), ?_⟩)) (i := 3) rfl rfl (fun w17 hS17 => ?_) | refine e_storeA hS16 rfl rfl (by kernel_rfl) (by repeat' (first | exact trivial | refine ⟨by first | rfl | assumption | exact one_if (by assumption), ?_⟩)) (i := 4) rfl rfl (fun w17 hS17 => ?_) | refine e_storeA hS16 rfl rfl (by kernel_rfl) (by repeat' (first | exact trivial | refine ⟨by first | rfl | assumption | exact one_if (by assumption), ?_⟩)) (i := 5) rfl rfl (fun w17 hS17 => ?_) | refine e_storeA hS16 rfl rfl (by kernel_rfl) (by repeat' (first | exact trivial | refine ⟨by first | rfl | assumption | exact one_if (by assumption), ?_⟩)) (i := 6) rfl rfl (fun w17 hS17 => ?_) | refine e_storeA hS16 rfl rfl (by kernel_rfl) (by repeat' (first | exact trivial | refine ⟨by first | rfl | assumption | exact one_if (by assumption), ?_⟩)) (i := 7) rfl rfl (fun w17 hS17 => ?_)
          clear hS16
          refine hK _ _ ?_; clear hK K
          refine l_nil ?_
          refine hK15 _ _ ?_
          refine wp_seq_k (fun K18 hK18 => ?_)
          refine wp_region_lit ?_
          refine l_q rfl rfl (q_fieldAddr (ft := 3) (o := 1) rfl (by kernel_rfl)) ?_
          refine l_q rfl rfl (q_load1 rfl (by kernel_rfl) (by first | exact hS17.cell (i := 0) rfl rfl | exact hS17.cell (i := 1) rfl rfl | exact hS17.cell (i := 2) rfl rfl | exact hS17.cell (i := 3) rfl rfl | exact hS17.cell (i := 4) rfl rfl | exact hS17.cell (i := 5) rfl rfl | exact hS17.cell (i := 6) rfl rfl | exact hS17.cell (i := 7) rfl rfl | assumption)) ?_
          first | refine l_q rfl rfl (q_moveS rfl) ?_ | refine l_q rfl rfl (q_move rfl) ?_
          refine l_q rfl rfl (q_lenSl (e := 29) rfl (by kernel_rfl)) ?_
          refine l_e rfl (fun K hK => ?_)
          refine e_call (by kernel_rfl) (pick_ok ap m hap (by omega) _) rfl (after_R hS17 (fun v19 w19 hv19 hS19 => ?_))
          clear hS17; obtain ⟨px, rfl, hpx⟩ := hv19
          refine hK _ _ ?_; clear hK K
          first | refine l_q rfl rfl (q_assignI rfl) ?_ | refine l_q rfl rfl (q_assign rfl) ?_
          refine l_nil ?_
          refine hK18 _ _ ?_
          refine wp_seq_k (fun K20 hK20 => ?_)
          refine wp_region_lit ?_
          refine l_q rfl rfl (q_fieldAddr (ft := 3) (o := 2) rfl (by kernel_rfl)) ?_
          refine l_q rfl rfl (q_load1 rfl (by kernel_rfl) (by first | exact hS19.cell (i := 0) rfl rfl | exact hS19.cell (i := 1) rfl rfl | exact hS19.cell (i := 2) rfl rfl | exact hS19.cell (i := 3) rfl rfl | exact hS19.cell (i := 4) rfl rfl | exact hS19.cell (i := 5) rfl rfl | exact hS19.cell (i := 6) rfl rfl | exact hS19.cell (i := 7) rfl rfl | assumption)) ?_
          first | refine l_q rfl rfl (q_moveS rfl) ?_ | refine l_q rfl rfl (q_move rfl) ?_
          refine l_q rfl rfl (q_lenSl (e := 29) rfl (by kernel_rfl)) ?_
          refine l_e rfl (fun K hK => ?_)
          refine e_call (by kernel_rfl) (pick_ok aq m haq (by omega) _) rfl (after_R hS19 (fun v21 w21 hv21 hS21 => ?_))
          clear hS19; obtain ⟨py, rfl, hpy⟩ := hv21
          refine hK _ _ ?_; clear hK K
          first | refine l_q rfl rfl (q_assignI rfl) ?_ | refine l_q rfl rfl (q_assign rfl) ?_
          refine l_nil ?_
          refine hK20 _ _ ?_
          refine wp_seq_k (fun K22 hK22 => ?_)
          refine wp_region_lit ?_
          refine l_q rfl rfl (q_fieldAddr (ft := 3) (o := 0) rfl (by kernel_rfl)) ?_
          refine l_q rfl rfl (q_load1 rfl (by kernel_rfl) (by first | exact hS21.cell (i := 0) rfl rfl | exact hS21.cell (i := 1) rfl rfl | exact hS21.cell (i := 2) rfl rfl | exact hS21.cell (i := 3) rfl rfl | exact hS21.cell (i := 4) rfl rfl | exact hS21.cell (i := 5) rfl rfl | exact hS21.cell (i := 6) rfl rfl | exact hS21.cell (i := 7) rfl rfl | assumption)) ?_
          refine l_nil ?_
          refine hK22 _ _ ?_
          refine wp_block ?_
          refine wp_seq_k (fun K23 hK23 => ?_)
          refine wp_region_lit ?_
          refine l_q rfl rfl (q_eql rfl rfl) ?_
          first | refine l_q rfl rfl (q_assignB rfl) ?_ | refine l_q rfl rfl (q_assign rfl) ?_
          refine l_nil ?_
          refine hK23 _ _ ?_
          refine c_cond rfl (fun hc24 => ?_) (fun hc24 => ?_)
          ·
            have hc24b := hc24
            try simp only [decide_eq_true_eq, decide_eq_false_iff_not, Bool.not_eq_true', Bool.not_eq_false', Bool.and_eq_true, Bool.or_eq_true, Int.not_lt, Int.not_le, ne_eq, Decidable.not_not] at hc24
            have hk1 := hc24
            refine wp_seq_k (fun K25 hK25 => ?_)
            refine wp_region_lit ?_
            first | refine l_q rfl rfl (q_moveS rfl) ?_ | refine l_q rfl rfl (q_move rfl) ?_
            refine l_q rfl rfl (q_fieldAddr (ft := 23) (o := 3) rfl (by kernel_rfl)) ?_
            refine l_q rfl rfl (q_load1 rfl (by kernel_rfl) (by first | exact hS21.cell (i := 0) rfl rfl | exact hS21.cell (i := 1) rfl rfl | exact hS21.cell (i := 2) rfl rfl | exact hS21.cell (i := 3) rfl rfl | exact hS21.cell (i := 4) rfl rfl | exact hS21.cell (i := 5) rfl rfl | exact hS21.cell (i := 6) rfl rfl | exact hS21.cell (i := 7) rfl rfl | assumption)) ?_
            refine l_q rfl rfl (q_fieldAddr (ft := 3) (o := 4) rfl (by kernel_rfl)) ?_
            refine l_q rfl rfl (q_load1 rfl (by kernel_rfl) (by first | exact hS21.cell (i := 0) rfl rfl | exact hS21.cell (i := 1) rfl rfl | exact hS21.cell (i := 2) rfl rfl | exact hS21.cell (i := 3) rfl rfl | exact hS21.cell (i := 4) rfl rfl | exact hS21.cell (i := 5) rfl rfl | exact hS21.cell (i := 6) rfl rfl | exact hS21.cell (i := 7) rfl rfl | assumption)) ?_
            refine l_e rfl (fun K hK => ?_)
            have hP26 := hS21.perm_head; clear hS21
            refine e_call (by kernel_rfl) (New_pool (St.begin (Γ := [_]) hP26) _ _) rfl (after_M (Γ1 := [_]) hP26 (fun v26 G26 w26 hv26 hS26 => ?_))
            clear hP26; obtain ⟨bs1, es1, ss1, ⟨he1, hs1⟩, rfl⟩ := hv26
            subst he1; replace hs1 := hs1.symm; subst hs1
            refine hK _ _ ?_; clear hK K
            have ho := one_if (((PS.nextR (F := [_, _, _]) hS26).1 _ (.head _)).isIf)
            refine l_e rfl (fun K hK => ?_)
            refine e_buildSlice1 (e := 29) (zv := .nilIface) (xs := [.tmp 46]) hS26 (by kernel_rfl) (by kernel_rfl) (by kernel_rfl) rfl rfl rfl rfl (ones1 (by first | rfl | assumption)) rfl (fun b27 w27 hS27 => ?_)
            clear hS26
            refine hK _ _ ?_; clear hK K
            refine l_e rfl (fun K hK => ?_)
            first | refine e_append (e := 29) (size := 1) (bytes := 16) (i := 3) (by kernel_rfl) hS27 rfl rfl rfl (reads_blk (hS27.blk (i := 0) rfl)) rfl (by first | exact ones1 rfl | exact ones1 (by assumption)) (by first | omega | (unfold maxLen; omega)) (by first | omega | (unfold maxLen; omega)) (fun h => by cases h) (fun v28 w28 hS28 => ?_)
            clear hS27
            refine hK _ _ ?_; clear hK K
            obtain ⟨gE1, cE1, rfl⟩ := own_some (hS28.sl (i := 3) rfl) (by omega)
            first | refine l_q rfl rfl (q_assignS rfl) ?_ | refine l_q rfl rfl (q_assign rfl) ?_
            refine l_nil ?_
            refine hK25 _ _ ?_
            refine wp_region_lit ?_
            first | refine l_q rfl rfl (q_moveS rfl) ?_ | refine l_q rfl rfl (q_move rfl) ?_
            refine l_q rfl rfl (q_fieldAddr (ft := 23) (o := 3) rfl (by kernel_rfl)) ?_
            refine l_q rfl rfl (q_load1 rfl (by kernel_rfl) (by first | exact hS28.cell (i := 0) rfl rfl | exact hS28.cell (i := 1) rfl rfl | exact hS28.cell (i := 2) rfl rfl | exact hS28.cell (i := 3) rfl rfl | exact hS28.cell (i := 4) rfl rfl | exact hS28.cell (i := 5) rfl rfl | exact hS28.cell (i := 6) rfl rfl | exact hS28.cell (i := 7) rfl rfl | assumption)) ?_
            refine l_q rfl rfl (q_fieldAddr (ft := 3) (o := 4) rfl (by kernel_rfl)) ?_
            refine l_q rfl rfl (q_load1 rfl (by kernel_rfl) (by first | exact hS28.cell (i := 0) rfl rfl | exact hS28.cell (i := 1) rfl rfl | exact hS28.cell (i := 2) rfl rfl | exact hS28.cell (i := 3) rfl rfl | exact hS28.cell (i := 4) rfl rfl | exact hS28.cell (i := 5) rfl rfl | exact hS28.cell (i := 6) rfl rfl | exact hS28.cell (i := 7) rfl rfl | assumption)) ?_
            refine l_e rfl (fun K hK => ?_)
            have hP29 := hS28.perm_head; clear hS28
            refine e_call (by kernel_rfl) (rNew_pool (St.begin (Γ := [_]) hP29) _ _) rfl (after_M (Γ1 := [_]) hP29 (fun v29 G29 w29 hv29 hS29 => ?_))
            clear hP29; obtain ⟨bs2, es2, ss2, ⟨ca, pa, cc, pc, rfl, he2, hs2⟩, rfl⟩ := hv29
            subst hs2; replace he2 := he2.symm; subst he2
            refine hK _ _ ?_; clear hK K
            refine l_e rfl (fun K hK => ?_)
            refine e_buildSliceA (e := 46) (m := 3) (zv := .agg #[.slice none 0 0, .slice none 0 0, .int .i64 0]) hS29 (by kernel_rfl) (by kernel_rfl) (by kernel_rfl) rfl rfl rfl rfl (fun b30 w30 hS30 => ?_)
            clear hS29
            refine hK _ _ ?_; clear hK K
            refine l_e rfl (fun K hK => ?_)
            first | refine e_append (e := 46) (size := 3) (bytes := 56) (i := 5) (by kernel_rfl) hS30 rfl rfl rfl (reads_blk (hS30.blk (i := 0) rfl)) rfl (AllOne.all ⟨rfl, rfl, rfl, trivial⟩) (by first | omega | (unfold maxLen; omega)) (by first | omega | (unfold maxLen; omega)) (fun h => by cases h) (fun v31 w31 hS31 => ?_)
            clear hS30
            refine hK _ _ ?_; clear hK K
            obtain ⟨gT1, cT1, rfl⟩ := own_some (hS31.sl (i := 5) rfl) (by omega)
            first | refine l_q rfl rfl (q_assignS rfl) ?_ | refine l_q rfl rfl (q_assign rfl) ?_
            refine l_nil ?_
            refine hK14 _ _ (came (⟨k, m + 1, gE1, cE1, gT1, cT1, bs2, (v26, Er.new acd aat) :: es, (ca, iv (Er.new acd aat).codes) :: (pa, iv (Er.new acd aat).places) :: ss, vs ++ [v26], ts ++ Row.cells ⟨v26, Er.new acd aat, ca, pa, cc, pc⟩, rows ++ [⟨v26, Er.new acd aat, ca, pa, cc, pc⟩]⟩) (by repeat' (first | exact Agree.refl _ _ | refine Agree.up ?_ rfl | refine Agree.hav2 ?_ rfl | refine Agree.ups2 ?_ rfl)) (by first | exact trivial | exact ⟨rfl, trivial⟩ | exact ⟨rfl, rfl, trivial⟩ | exact ⟨rfl, rfl, rfl, trivial⟩ | exact ⟨rfl, rfl, rfl, rfl, trivial⟩) ?_)
            exact ⟨hS31.sub (Γ' := bG ⟨k, m + 1, gE1, cE1, gT1, cT1, bs2, (v26, Er.new acd aat) :: es, (ca, iv (Er.new acd aat).codes) :: (pa, iv (Er.new acd aat).places) :: ss, vs ++ [v26], ts ++ Row.cells ⟨v26, Er.new acd aat, ca, pa, cc, pc⟩, rows ++ [⟨v26, Er.new acd aat, ca, pa, cc, pc⟩]⟩) (by repeat' (first | exact List.Sublist.refl _ | apply List.Sublist.cons_cons | apply List.Sublist.cons)), hB.snoc (x := ⟨k, m, ga, ac, gt, tc, bs, es, ss, vs, ts, rows⟩) (fun _ h => .tail _ h) (fun _ h => .tail _ (.tail _ h)) rfl rfl (RowOk.new k acd aat (.head _) (.head _) (.tail _ (.head _)))⟩
          ·
            have hc24b := hc24
            try simp only [decide_eq_true_eq, decide_eq_false_iff_not, Bool.not_eq_true', Bool.not_eq_false', Bool.and_eq_true, Bool.or_eq_true, Int.not_lt, Int.not_le, ne_eq, Decidable.not_not] at hc24
            refine wp_seq_k (fun K32 hK32 => ?_)
            refine wp_region_lit ?_
            refine l_q rfl rfl (q_eql rfl rfl) ?_
            first | refine l_q rfl rfl (q_assignB rfl) ?_ | refine l_q rfl rfl (q_assign rfl) ?_
            refine l_nil ?_
            refine hK32 _ _ ?_
            refine c_cond rfl (fun hc33 => ?_) (fun hc33 => ?_)
            ·
              have hc33b := hc33
              try simp only [decide_eq_true_eq, decide_eq_false_iff_not, Bool.not_eq_true', Bool.not_eq_false', Bool.and_eq_true, Bool.or_eq_true, Int.not_lt, Int.not_le, ne_eq, Decidable.not_not] at hc33
              obtain ⟨rx, hrx, hRx, hxv, hxt⟩ := hB.at hpx
              obtain ⟨hx1, hx2, hx3, hx4, hx5, hx6⟩ := id hRx
              dsimp only at hx5 hx6
              refine wp_seq_k (fun K34 hK34 => ?_)
              refine r_any (by kernel_rfl) hS21 (fun w35 hS35 => ?_)
              clear hS21
              first | refine o_pure (i := 0) (fun _ _ => trivial) rfl rfl (by kernel_rfl) (goes0 rfl) (QOk.then (QOk.inBlock (QOk.inBlock (QOk.then (QOk.then (QOk.inBlock (QOk.then QOk.body))))))) (fun w => q_moveS rfl) ?_ | refine o_pure (i := 0) (fun _ _ => trivial) rfl rfl (by kernel_rfl) (goes0 rfl) (QOk.then (QOk.inBlock (QOk.inBlock (QOk.then (QOk.then (QOk.inBlock (QOk.then QOk.body))))))) (fun w => q_move rfl) ?_
              first | refine o_pure (i := 1) (fun _ _ => trivial) rfl rfl (by kernel_rfl) (goes0 rfl) (QOk.then (QOk.inBlock (QOk.inBlock (QOk.then (QOk.then (QOk.inBlock (QOk.then QOk.body))))))) (fun w => q_moveS rfl) ?_ | refine o_pure (i := 1) (fun _ _ => trivial) rfl rfl (by kernel_rfl) (goes0 rfl) (QOk.then (QOk.inBlock (QOk.inBlock (QOk.then (QOk.then (QOk.inBlock (QOk.then QOk.body))))))) (fun w => q_move rfl) ?_
              first | refine o_pure (i := 2) (fun _ _ => trivial) rfl rfl (by kernel_rfl) (goes0 rfl) (QOk.then (QOk.inBlock (QOk.inBlock (QOk.then (QOk.then (QOk.inBlock (QOk.then QOk.body))))))) (fun w => q_moveI rfl) ?_ | refine o_pure (i := 2) (fun _ _ => trivial) rfl rfl (by kernel_rfl) (goes0 rfl) (QOk.then (QOk.inBlock (QOk.inBlock (QOk.then (QOk.then (QOk.inBlock (QOk.then QOk.body))))))) (fun w => q_move rfl) ?_
              refine o_pure (i := 3) (fun _ _ => trivial) rfl rfl (by kernel_rfl) (goes0 rfl) (QOk.then (QOk.inBlock (QOk.inBlock (QOk.then (QOk.then (QOk.inBlock (QOk.then QOk.body))))))) (fun w => q_indexAddr (e := 29) (m := 1) rfl rfl (by kernel_rfl) (by kernel_rfl) (by first | decide | omega) (by first | decide | omega)) ?_
              refine o_held (i := 4) [9, 10, 11, 12] (fun _ _ => trivial) rfl rfl (by kernel_rfl) (goes0 rfl) (QOk.then (QOk.inBlock (QOk.inBlock (QOk.then (QOk.then (QOk.inBlock (QOk.then QOk.body))))))) (q_load1 rfl (by kernel_rfl) (own_cellI (hS35.sl (i := 2) rfl) hxv)) ?_
              refine o_pure (i := 5) (fun j w => ⟨(fun _ _ => trivial) j w, fun _ h => h⟩) rfl rfl (by kernel_rfl) (goes0 rfl) (QOk.then (QOk.inBlock (QOk.inBlock (QOk.then (QOk.then (QOk.inBlock (QOk.then QOk.body))))))) (fun w => q_fieldAddr (ft := 23) (o := 3) rfl (by kernel_rfl)) ?_
              refine o_held (i := 6) [9, 10, 11, 12] (fun j w => ⟨(fun _ _ => trivial) j w, fun _ h => h⟩) rfl rfl (by kernel_rfl) (goes0 rfl) (QOk.then (QOk.inBlock (QOk.inBlock (QOk.then (QOk.then (QOk.inBlock (QOk.then QOk.body))))))) (q_load1 rfl (by kernel_rfl) (by first | exact hS35.cell (i := 0) rfl rfl | exact hS35.cell (i := 1) rfl rfl | exact hS35.cell (i := 2) rfl rfl | exact hS35.cell (i := 3) rfl rfl | exact hS35.cell (i := 4) rfl rfl | exact hS35.cell (i := 5) rfl rfl | exact hS35.cell (i := 6) rfl rfl | exact hS35.cell (i := 7) rfl rfl | assumption)) ?_
              refine o_pure (i := 7) (fun j w => ⟨(fun j w => ⟨(fun _ _ => trivial) j w, fun _ h => h⟩) j w, fun _ h => h⟩) rfl rfl (by kernel_rfl) (goes0 rfl) (QOk.then (QOk.inBlock (QOk.inBlock (QOk.then (QOk.then (QOk.inBlock (QOk.then QOk.body))))))) (fun w => q_fieldAddr (ft := 3) (o := 4) rfl (by kernel_rfl)) ?_
              refine o_held (i := 8) [9, 10, 11, 12] (fun j w => ⟨(fun j w => ⟨(fun _ _ => trivial) j w, fun _ h => h⟩) j w, fun _ h => h⟩) rfl rfl (by kernel_rfl) (goes0 rfl) (QOk.then (QOk.inBlock (QOk.inBlock (QOk.then (QOk.then (QOk.inBlock (QOk.then QOk.body))))))) (q_load1 rfl (by kernel_rfl) (by first | exact hS35.cell (i := 0) rfl rfl | exact hS35.cell (i := 1) rfl rfl | exact hS35.cell (i := 2) rfl rfl | exact hS35.cell (i := 3) rfl rfl | exact hS35.cell (i := 4) rfl rfl | exact hS35.cell (i := 5) rfl rfl | exact hS35.cell (i := 6) rfl rfl | exact hS35.cell (i := 7) rfl rfl | assumption)) ?_
              refine o_eff (i := 9) (by kernel_rfl) rfl (goes0 rfl) (fun K hK => ?_)
              have hP36 := hS35.perm_head; clear hS35
              refine e_call (by kernel_rfl) (Wrap_pool (St.begin (Γ := [_]) hP36) _ _ hx1 _ _) rfl (after_M (Γ1 := [_]) hP36 (fun v36 G36 w36 hv36 hS36 => ?_))
              clear hP36; obtain ⟨bs1, es1, ss1, ⟨he1, hs1⟩, rfl⟩ := hv36
              subst he1; replace hs1 := hs1.symm; subst hs1
              refine hK _ _ ⟨⟨⟨trivial, fun h => absurd h (by decide)⟩, fun h => absurd h (by decide)⟩, fun h => absurd h (by decide)⟩ ?_; clear hK K
              refine o_eff (i := 10) (by kernel_rfl) rfl (goes0 rfl) (fun K hK => ?_)
              have ho := one_if (((PS.nextR (F := [_, _, _]) hS36).1 _ (.head _)).isIf)
              refine e_buildSlice1 (e := 29) (zv := .nilIface) (xs := [.tmp 68]) hS36 (by kernel_rfl) (by kernel_rfl) (by kernel_rfl) rfl rfl rfl rfl (ones1 (by first | rfl | assumption)) rfl (fun b37 w37 hS37 => ?_)
              clear hS36
              refine hK _ _ ⟨⟨⟨trivial, fun h => absurd h (by decide)⟩, fun h => absurd h (by decide)⟩, fun h => absurd h (by decide)⟩ ?_; clear hK K
              refine o_eff (i := 11) (by kernel_rfl) rfl (goes0 rfl) (fun K hK => ?_)
              first | refine e_append (e := 29) (size := 1) (bytes := 16) (i := 3) (by kernel_rfl) hS37 rfl rfl rfl (reads_blk (hS37.blk (i := 0) rfl)) rfl (by first | exact ones1 rfl | exact ones1 (by assumption)) (by first | omega | (unfold maxLen; omega)) (by first | omega | (unfold maxLen; omega)) (fun h => by cases h) (fun v38 w38 hS38 => ?_)
              clear hS37
              refine hK _ _ ⟨⟨⟨trivial, fun h => absurd h (by decide)⟩, fun h => absurd h (by decide)⟩, fun h => absurd h (by decide)⟩ ?_; clear hK K
              obtain ⟨gE1, cE1, rfl⟩ := own_some (hS38.sl (i := 3) rfl) (by omega)
              first | refine o_pure (i := 12) (fun j w => ⟨(fun j w => ⟨(fun j w => ⟨(fun _ _ => trivial) j w, fun _ h => h⟩) j w, fun _ h => h⟩) j w, fun _ h => h⟩) rfl rfl (by kernel_rfl) (goes0 rfl) (QOk.then (QOk.inBlock (QOk.inBlock (QOk.then (QOk.then (QOk.inBlock (QOk.then QOk.body))))))) (fun w => q_assignS rfl) ?_ | refine o_pure (i := 12) (fun j w => ⟨(fun j w => ⟨(fun j w => ⟨(fun _ _ => trivial) j w, fun _ h => h⟩) j w, fun _ h => h⟩) j w, fun _ h => h⟩) rfl rfl (by kernel_rfl) (goes0 rfl) (QOk.then (QOk.inBlock (QOk.inBlock (QOk.then (QOk.then (QOk.inBlock (QOk.then QOk.body))))))) (fun w => q_assign rfl) ?_
              refine o_done (by kernel_rfl) ?_
              refine hK34 _ _ ?_
              refine r_any (by kernel_rfl) hS38 (fun w39 hS39 => ?_)
              clear hS38
              first | refine o_pure (i := 0) (fun _ _ => trivial) rfl rfl (by kernel_rfl) (goes0 rfl) (QOk.inBlock (QOk.inBlock (QOk.then (QOk.then (QOk.inBlock (QOk.then QOk.body)))))) (fun w => q_moveS rfl) ?_ | refine o_pure (i := 0) (fun _ _ => trivial) rfl rfl (by kernel_rfl) (goes0 rfl) (QOk.inBlock (QOk.inBlock (QOk.then (QOk.then (QOk.inBlock (QOk.then QOk.body)))))) (fun w => q_move rfl) ?_
              first | refine o_pure (i := 1) (fun _ _ => trivial) rfl rfl (by kernel_rfl) (goes0 rfl) (QOk.inBlock (QOk.inBlock (QOk.then (QOk.then (QOk.inBlock (QOk.then QOk.body)))))) (fun w => q_moveS rfl) ?_ | refine o_pure (i := 1) (fun _ _ => trivial) rfl rfl (by kernel_rfl) (goes0 rfl) (QOk.inBlock (QOk.inBlock (QOk.then (QOk.then (QOk.inBlock (QOk.then QOk.body)))))) (fun w => q_move rfl) ?_
              first | refine o_pure (i := 2) (fun _ _ => trivial) rfl rfl (by kernel_rfl) (goes0 rfl) (QOk.inBlock (QOk.inBlock (QOk.then (QOk.then (QOk.inBlock (QOk.then QOk.body)))))) (fun w => q_moveI rfl) ?_ | refine o_pure (i := 2) (fun _ _ => trivial) rfl rfl (by kernel_rfl) (goes0 rfl) (QOk.inBlock (QOk.inBlock (QOk.then (QOk.then (QOk.inBlock (QOk.then QOk.body)))))) (fun w => q_move rfl) ?_
              refine o_pure (i := 3) (fun _ _ => trivial) rfl rfl (by kernel_rfl) (goes0 rfl) (QOk.inBlock (QOk.inBlock (QOk.then (QOk.then (QOk.inBlock (QOk.then QOk.body)))))) (fun w => q_indexAddr (e := 46) (m := 3) rfl rfl (by kernel_rfl) (by kernel_rfl) (by first | decide | omega) (by first | decide | omega)) ?_
              refine o_held (i := 4) [9, 10, 11, 12] (fun _ _ => trivial) rfl rfl (by kernel_rfl) (goes0 rfl) (QOk.inBlock (QOk.inBlock (QOk.then (QOk.then (QOk.inBlock (QOk.then QOk.body)))))) (q_loadCs (cs := Row.cells rx) rfl (by kernel_rfl) (by kernel_rfl) (fun j u hu => own_cell (hS39.sl (i := 4) rfl) (hxt j u hu))) ?_
              refine o_pure (i := 5) (fun j w => ⟨(fun _ _ => trivial) j w, fun _ h => h⟩) rfl rfl (by kernel_rfl) (goes0 rfl) (QOk.inBlock (QOk.inBlock (QOk.then (QOk.then (QOk.inBlock (QOk.then QOk.body)))))) (fun w => q_fieldAddr (ft := 23) (o := 3) rfl (by kernel_rfl)) ?_
              refine o_held (i := 6) [9, 10, 11, 12] (fun j w => ⟨(fun _ _ => trivial) j w, fun _ h => h⟩) rfl rfl (by kernel_rfl) (goes0 rfl) (QOk.inBlock (QOk.inBlock (QOk.then (QOk.then (QOk.inBlock (QOk.then QOk.body)))))) (q_load1 rfl (by kernel_rfl) (by first | exact hS39.cell (i := 0) rfl rfl | exact hS39.cell (i := 1) rfl rfl | exact hS39.cell (i := 2) rfl rfl | exact hS39.cell (i := 3) rfl rfl | exact hS39.cell (i := 4) rfl rfl | exact hS39.cell (i := 5) rfl rfl | exact hS39.cell (i := 6) rfl rfl | exact hS39.cell (i := 7) rfl rfl | assumption)) ?_
              refine o_pure (i := 7) (fun j w => ⟨(fun j w => ⟨(fun _ _ => trivial) j w, fun _ h => h⟩) j w, fun _ h => h⟩) rfl rfl (by kernel_rfl) (goes0 rfl) (QOk.inBlock (QOk.inBlock (QOk.then (QOk.then (QOk.inBlock (QOk.then QOk.body)))))) (fun w => q_fieldAddr (ft := 3) (o := 4) rfl (by kernel_rfl)) ?_
              refine o_held (i := 8) [9, 10, 11, 12] (fun j w => ⟨(fun j w => ⟨(fun _ _ => trivial) j w, fun _ h => h⟩) j w, fun _ h => h⟩) rfl rfl (by kernel_rfl) (goes0 rfl) (QOk.inBlock (QOk.inBlock (QOk.then (QOk.then (QOk.inBlock (QOk.then QOk.body)))))) (q_load1 rfl (by kernel_rfl) (by first | exact hS39.cell (i := 0) rfl rfl | exact hS39.cell (i := 1) rfl rfl | exact hS39.cell (i := 2) rfl rfl | exact hS39.cell (i := 3) rfl rfl | exact hS39.cell (i := 4) rfl rfl | exact hS39.cell (i := 5) rfl rfl | exact hS39.cell (i := 6) rfl rfl | exact hS39.cell (i := 7) rfl rfl | assumption)) ?_
              refine o_eff (i := 9) (by kernel_rfl) rfl (goes0 rfl) (fun K hK => ?_)
              have hP40 := hS39.perm_head; clear hS39
              refine e_call (by kernel_rfl) (rWrap_pool (St.begin (Γ := [_]) hP40) _ hx4 (by omega) (by omega) _ _ _ _ hx2 hx3 _ _) rfl (after_M (Γ1 := [_]) hP40 (fun v40 G40 w40 hv40 hS40 => ?_))
              clear hP40; obtain ⟨bs2, es2, ss2, ⟨ca, pa, cc, pc, rfl, he2, hs2⟩, rfl⟩ := hv40
              subst hs2; replace he2 := he2.symm; subst he2
              refine hK _ _ ⟨⟨⟨trivial, fun h => absurd h (by decide)⟩, fun h => absurd h (by decide)⟩, fun h => absurd h (by decide)⟩ ?_; clear hK K
              refine o_eff (i := 10) (by kernel_rfl) rfl (goes0 rfl) (fun K hK => ?_)
              refine e_buildSliceA (e := 46) (m := 3) (zv := .agg #[.slice none 0 0, .slice none 0 0, .int .i64 0]) hS40 (by kernel_rfl) (by kernel_rfl) (by kernel_rfl) rfl rfl rfl rfl (fun b41 w41 hS41 => ?_)
              clear hS40
              refine hK _ _ ⟨⟨⟨trivial, fun h => absurd h (by decide)⟩, fun h => absurd h (by decide)⟩, fun h => absurd h (by decide)⟩ ?_; clear hK K
              refine o_eff (i := 11) (by kernel_rfl) rfl (goes0 rfl) (fun K hK => ?_)
              first | refine e_append (e := 46) (size := 3) (bytes := 56) (i := 5) (by kernel_rfl) hS41 rfl rfl rfl (reads_blk (hS41.blk (i := 0) rfl)) rfl (AllOne.all ⟨rfl, rfl, rfl, trivial⟩) (by first | omega | (unfold maxLen; omega)) (by first | omega | (unfold maxLen; omega)) (fun h => by cases h) (fun v42 w42 hS42 => ?_)
              clear hS41
              refine hK _ _ ⟨⟨⟨trivial, fun h => absurd h (by decide)⟩, fun h => absurd h (by decide)⟩, fun h => absurd h (by decide)⟩ ?_; clear hK K
              obtain ⟨gT1, cT1, rfl⟩ := own_some (hS42.sl (i := 5) rfl) (by omega)
              first | refine o_pure (i := 12) (fun j w => ⟨(fun j w => ⟨(fun j w => ⟨(fun _ _ => trivial) j w, fun _ h => h⟩) j w, fun _ h => h⟩) j w, fun _ h => h⟩) rfl rfl (by kernel_rfl) (goes0 rfl) (QOk.inBlock (QOk.inBlock (QOk.then (QOk.then (QOk.inBlock (QOk.then QOk.body)))))) (fun w => q_assignS rfl) ?_ | refine o_pure (i := 12) (fun j w => ⟨(fun j w => ⟨(fun j w => ⟨(fun _ _ => trivial) j w, fun _ h => h⟩) j w, fun _ h => h⟩) j w, fun _ h => h⟩) rfl rfl (by kernel_rfl) (goes0 rfl) (QOk.inBlock (QOk.inBlock (QOk.then (QOk.then (QOk.inBlock (QOk.then QOk.body)))))) (fun w => q_assign rfl) ?_
              refine o_done (by kernel_rfl) ?_
              refine hK14 _ _ (came (⟨k, m + 1, gE1, cE1, gT1, cT1, bs2, (v36, Er.wrap rx.e acd aat) :: es, (ca, iv (Er.wrap rx.e acd aat).codes) :: (pa, iv (Er.wrap rx.e acd aat).places) :: ss, vs ++ [v36], ts ++ Row.cells ⟨v36, Er.wrap rx.e acd aat, ca, pa, cc, pc⟩, rows ++ [⟨v36, Er.wrap rx.e acd aat, ca, pa, cc, pc⟩]⟩) (by repeat' (first | exact Agree.refl _ _ | refine Agree.up ?_ rfl | refine Agree.hav2 ?_ rfl | refine Agree.ups2 ?_ rfl)) (by first | exact trivial | exact ⟨rfl, trivial⟩ | exact ⟨rfl, rfl, trivial⟩ | exact ⟨rfl, rfl, rfl, trivial⟩ | exact ⟨rfl, rfl, rfl, rfl, trivial⟩) ?_)
              exact ⟨hS42.sub (Γ' := bG ⟨k, m + 1, gE1, cE1, gT1, cT1, bs2, (v36, Er.wrap rx.e acd aat) :: es, (ca, iv (Er.wrap rx.e acd aat).codes) :: (pa, iv (Er.wrap rx.e acd aat).places) :: ss, vs ++ [v36], ts ++ Row.cells ⟨v36, Er.wrap rx.e acd aat, ca, pa, cc, pc⟩, rows ++ [⟨v36, Er.wrap rx.e acd aat, ca, pa, cc, pc⟩]⟩) (by repeat' (first | exact List.Sublist.refl _ | apply List.Sublist.cons_cons | apply List.Sublist.cons)), hB.snoc (x := ⟨k, m, ga, ac, gt, tc, bs, es, ss, vs, ts, rows⟩) (fun _ h => .tail _ h) (fun _ h => .tail _ (.tail _ h)) rfl rfl (hRx.wrap acd aat (.head _) (.head _) (.tail _ (.head _)))⟩
            ·
              have hc33b := hc33
              try simp only [decide_eq_true_eq, decide_eq_false_iff_not, Bool.not_eq_true', Bool.not_eq_false', Bool.and_eq_true, Bool.or_eq_true, Int.not_lt, Int.not_le, ne_eq, Decidable.not_not] at hc33
              refine wp_seq_k (fun K43 hK43 => ?_)
              refine wp_region_lit ?_
              refine l_q rfl rfl (q_eql rfl rfl) ?_
              first | refine l_q rfl rfl (q_assignB rfl) ?_ | refine l_q rfl rfl (q_assign rfl) ?_
              refine l_nil ?_
              refine hK43 _ _ ?_
              refine c_cond rfl (fun hc44 => ?_) (fun hc44 => ?_)
              ·
                have hc44b := hc44
                try simp only [decide_eq_true_eq, decide_eq_false_iff_not, Bool.not_eq_true', Bool.not_eq_false', Bool.and_eq_true, Bool.or_eq_true, Int.not_lt, Int.not_le, ne_eq, Decidable.not_not] at hc44
                obtain ⟨rx, hrx, hRx, hxv, hxt⟩ := hB.at hpx
                obtain ⟨hx1, hx2, hx3, hx4, hx5, hx6⟩ := id hRx
                dsimp only at hx5 hx6
                obtain ⟨ry, hry, hRy, hyv, hyt⟩ := hB.at hpy
                obtain ⟨hy1, hy2, hy3, hy4, hy5, hy6⟩ := id hRy
                dsimp only at hy5 hy6
                refine wp_seq_k (fun K45 hK45 => ?_)
                refine r_any (by kernel_rfl) hS21 (fun w46 hS46 => ?_)
                clear hS21
                first | refine o_pure (i := 0) (fun _ _ => trivial) rfl rfl (by kernel_rfl) (goes0 rfl) (QOk.then (QOk.inBlock (QOk.inBlock (QOk.then (QOk.then (QOk.inBlock (QOk.then QOk.body))))))) (fun w => q_moveS rfl) ?_ | refine o_pure (i := 0) (fun _ _ => trivial) rfl rfl (by kernel_rfl) (goes0 rfl) (QOk.then (QOk.inBlock (QOk.inBlock (QOk.then (QOk.then (QOk.inBlock (QOk.then QOk.body))))))) (fun w => q_move rfl) ?_
                first | refine o_pure (i := 1) (fun _ _ => trivial) rfl rfl (by kernel_rfl) (goes0 rfl) (QOk.then (QOk.inBlock (QOk.inBlock (QOk.then (QOk.then (QOk.inBlock (QOk.then QOk.body))))))) (fun w => q_moveS rfl) ?_ | refine o_pure (i := 1) (fun _ _ => trivial) rfl rfl (by kernel_rfl) (goes0 rfl) (QOk.then (QOk.inBlock (QOk.inBlock (QOk.then (QOk.then (QOk.inBlock (QOk.then QOk.body))))))) (fun w => q_move rfl) ?_
                first | refine o_pure (i := 2) (fun _ _ => trivial) rfl rfl (by kernel_rfl) (goes0 rfl) (QOk.then (QOk.inBlock (QOk.inBlock (QOk.then (QOk.then (QOk.inBlock (QOk.then QOk.body))))))) (fun w => q_moveI rfl) ?_ | refine o_pure (i := 2) (fun _ _ => trivial) rfl rfl (by kernel_rfl) (goes0 rfl) (QOk.then (QOk.inBlock (QOk.inBlock (QOk.then (QOk.then (QOk.inBlock (QOk.then QOk.body))))))) (fun w => q_move rfl) ?_
                refine o_pure (i := 3) (fun _ _ => trivial) rfl rfl (by kernel_rfl) (goes0 rfl) (QOk.then (QOk.inBlock (QOk.inBlock (QOk.then (QOk.then (QOk.inBlock (QOk.then QOk.body))))))) (fun w => q_indexAddr (e := 29) (m := 1) rfl rfl (by kernel_rfl) (by kernel_rfl) (by first | decide | omega) (by first | decide | omega)) ?_
                refine o_held (i := 4) [9, 10, 11, 12] (fun _ _ => trivial) rfl rfl (by kernel_rfl) (goes0 rfl) (QOk.then (QOk.inBlock (QOk.inBlock (QOk.then (QOk.then (QOk.inBlock (QOk.then QOk.body))))))) (q_load1 rfl (by kernel_rfl) (own_cellI (hS46.sl (i := 2) rfl) hxv)) ?_
                first | refine o_pure (i := 5) (fun j w => ⟨(fun _ _ => trivial) j w, fun _ h => h⟩) rfl rfl (by kernel_rfl) (goes0 rfl) (QOk.then (QOk.inBlock (QOk.inBlock (QOk.then (QOk.then (QOk.inBlock (QOk.then QOk.body))))))) (fun w => q_moveS rfl) ?_ | refine o_pure (i := 5) (fun j w => ⟨(fun _ _ => trivial) j w, fun _ h => h⟩) rfl rfl (by kernel_rfl) (goes0 rfl) (QOk.then (QOk.inBlock (QOk.inBlock (QOk.then (QOk.then (QOk.inBlock (QOk.then QOk.body))))))) (fun w => q_move rfl) ?_
                first | refine o_pure (i := 6) (fun j w => ⟨(fun _ _ => trivial) j w, fun _ h => h⟩) rfl rfl (by kernel_rfl) (goes0 rfl) (QOk.then (QOk.inBlock (QOk.inBlock (QOk.then (QOk.then (QOk.inBlock (QOk.then QOk.body))))))) (fun w => q_moveI rfl) ?_ | refine o_pure (i := 6) (fun j w => ⟨(fun _ _ => trivial) j w, fun _ h => h⟩) rfl rfl (by kernel_rfl) (goes0 rfl) (QOk.then (QOk.inBlock (QOk.inBlock (QOk.then (QOk.then (QOk.inBlock (QOk.then QOk.body))))))) (fun w => q_move rfl) ?_
                refine o_pure (i := 7) (fun j w => ⟨(fun _ _ => trivial) j w, fun _ h => h⟩) rfl rfl (by kernel_rfl) (goes0 rfl) (QOk.then (QOk.inBlock (QOk.inBlock (QOk.then (QOk.then (QOk.inBlock (QOk.then QOk.body))))))) (fun w => q_indexAddr (e := 29) (m := 1) rfl rfl (by kernel_rfl) (by kernel_rfl) (by first | decide | omega) (by first | decide | omega)) ?_
                refine o_held (i := 8) [9, 10, 11, 12] (fun j w => ⟨(fun _ _ => trivial) j w, fun _ h => h⟩) rfl rfl (by kernel_rfl) (goes0 rfl) (QOk.then (QOk.inBlock (QOk.inBlock (QOk.then (QOk.then (QOk.inBlock (QOk.then QOk.body))))))) (q_load1 rfl (by kernel_rfl) (own_cellI (hS46.sl (i := 2) rfl) hyv)) ?_
                refine o_eff (i := 9) (by kernel_rfl) rfl (goes0 rfl) (fun K hK => ?_)
                have hP47 := hS46.perm_head; clear hS46
                refine e_call (by kernel_rfl) (Join_pool (St.begin (Γ := [_]) hP47) _ _ _ _ hx1 hy1) rfl (after_M (Γ1 := [_]) hP47 (fun v47 G47 w47 hv47 hS47 => ?_))
                clear hP47; obtain ⟨bs1, es1, ss1, ⟨he1, hs1⟩, rfl⟩ := hv47
                subst he1; replace hs1 := hs1.symm; subst hs1
                refine hK _ _ ⟨⟨trivial, fun h => absurd h (by decide)⟩, fun h => absurd h (by decide)⟩ ?_; clear hK K
                refine o_eff (i := 10) (by kernel_rfl) rfl (goes0 rfl) (fun K hK => ?_)
                have ho := one_if (((PS.nextR (F := [_, _, _]) hS47).1 _ (.head _)).isIf)
                refine e_buildSlice1 (e := 29) (zv := .nilIface) (xs := [.tmp 94]) hS47 (by kernel_rfl) (by kernel_rfl) (by kernel_rfl) rfl rfl rfl rfl (ones1 (by first | rfl | assumption)) rfl (fun b48 w48 hS48 => ?_)
                clear hS47
                refine hK _ _ ⟨⟨trivial, fun h => absurd h (by decide)⟩, fun h => absurd h (by decide)⟩ ?_; clear hK K
                refine o_eff (i := 11) (by kernel_rfl) rfl (goes0 rfl) (fun K hK => ?_)
                first | refine e_append (e := 29) (size := 1) (bytes := 16) (i := 3) (by kernel_rfl) hS48 rfl rfl rfl (reads_blk (hS48.blk (i := 0) rfl)) rfl (by first | exact ones1 rfl | exact ones1 (by assumption)) (by first | omega | (unfold maxLen; omega)) (by first | omega | (unfold maxLen; omega)) (fun h => by cases h) (fun v49 w49 hS49 => ?_)
                clear hS48
                refine hK _ _ ⟨⟨trivial, fun h => absurd h (by decide)⟩, fun h => absurd h (by decide)⟩ ?_; clear hK K
                obtain ⟨gE1, cE1, rfl⟩ := own_some (hS49.sl (i := 3) rfl) (by omega)
                first | refine o_pure (i := 12) (fun j w => ⟨(fun j w => ⟨(fun _ _ => trivial) j w, fun _ h => h⟩) j w, fun _ h => h⟩) rfl rfl (by kernel_rfl) (goes0 rfl) (QOk.then (QOk.inBlock (QOk.inBlock (QOk.then (QOk.then (QOk.inBlock (QOk.then QOk.body))))))) (fun w => q_assignS rfl) ?_ | refine o_pure (i := 12) (fun j w => ⟨(fun j w => ⟨(fun _ _ => trivial) j w, fun _ h => h⟩) j w, fun _ h => h⟩) rfl rfl (by kernel_rfl) (goes0 rfl) (QOk.then (QOk.inBlock (QOk.inBlock (QOk.then (QOk.then (QOk.inBlock (QOk.then QOk.body))))))) (fun w => q_assign rfl) ?_
                refine o_done (by kernel_rfl) ?_
                refine hK45 _ _ ?_
                refine r_any (by kernel_rfl) hS49 (fun w50 hS50 => ?_)
                clear hS49
                first | refine o_pure (i := 0) (fun _ _ => trivial) rfl rfl (by kernel_rfl) (goes0 rfl) (QOk.inBlock (QOk.inBlock (QOk.then (QOk.then (QOk.inBlock (QOk.then QOk.body)))))) (fun w => q_moveS rfl) ?_ | refine o_pure (i := 0) (fun _ _ => trivial) rfl rfl (by kernel_rfl) (goes0 rfl) (QOk.inBlock (QOk.inBlock (QOk.then (QOk.then (QOk.inBlock (QOk.then QOk.body)))))) (fun w => q_move rfl) ?_
                first | refine o_pure (i := 1) (fun _ _ => trivial) rfl rfl (by kernel_rfl) (goes0 rfl) (QOk.inBlock (QOk.inBlock (QOk.then (QOk.then (QOk.inBlock (QOk.then QOk.body)))))) (fun w => q_moveS rfl) ?_ | refine o_pure (i := 1) (fun _ _ => trivial) rfl rfl (by kernel_rfl) (goes0 rfl) (QOk.inBlock (QOk.inBlock (QOk.then (QOk.then (QOk.inBlock (QOk.then QOk.body)))))) (fun w => q_move rfl) ?_
                first | refine o_pure (i := 2) (fun _ _ => trivial) rfl rfl (by kernel_rfl) (goes0 rfl) (QOk.inBlock (QOk.inBlock (QOk.then (QOk.then (QOk.inBlock (QOk.then QOk.body)))))) (fun w => q_moveI rfl) ?_ | refine o_pure (i := 2) (fun _ _ => trivial) rfl rfl (by kernel_rfl) (goes0 rfl) (QOk.inBlock (QOk.inBlock (QOk.then (QOk.then (QOk.inBlock (QOk.then QOk.body)))))) (fun w => q_move rfl) ?_
                refine o_pure (i := 3) (fun _ _ => trivial) rfl rfl (by kernel_rfl) (goes0 rfl) (QOk.inBlock (QOk.inBlock (QOk.then (QOk.then (QOk.inBlock (QOk.then QOk.body)))))) (fun w => q_indexAddr (e := 46) (m := 3) rfl rfl (by kernel_rfl) (by kernel_rfl) (by first | decide | omega) (by first | decide | omega)) ?_
                refine o_held (i := 4) [9, 10, 11, 12] (fun _ _ => trivial) rfl rfl (by kernel_rfl) (goes0 rfl) (QOk.inBlock (QOk.inBlock (QOk.then (QOk.then (QOk.inBlock (QOk.then QOk.body)))))) (q_loadCs (cs := Row.cells rx) rfl (by kernel_rfl) (by kernel_rfl) (fun j u hu => own_cell (hS50.sl (i := 4) rfl) (hxt j u hu))) ?_
                first | refine o_pure (i := 5) (fun j w => ⟨(fun _ _ => trivial) j w, fun _ h => h⟩) rfl rfl (by kernel_rfl) (goes0 rfl) (QOk.inBlock (QOk.inBlock (QOk.then (QOk.then (QOk.inBlock (QOk.then QOk.body)))))) (fun w => q_moveS rfl) ?_ | refine o_pure (i := 5) (fun j w => ⟨(fun _ _ => trivial) j w, fun _ h => h⟩) rfl rfl (by kernel_rfl) (goes0 rfl) (QOk.inBlock (QOk.inBlock (QOk.then (QOk.then (QOk.inBlock (QOk.then QOk.body)))))) (fun w => q_move rfl) ?_
                first | refine o_pure (i := 6) (fun j w => ⟨(fun _ _ => trivial) j w, fun _ h => h⟩) rfl rfl (by kernel_rfl) (goes0 rfl) (QOk.inBlock (QOk.inBlock (QOk.then (QOk.then (QOk.inBlock (QOk.then QOk.body)))))) (fun w => q_moveI rfl) ?_ | refine o_pure (i := 6) (fun j w => ⟨(fun _ _ => trivial) j w, fun _ h => h⟩) rfl rfl (by kernel_rfl) (goes0 rfl) (QOk.inBlock (QOk.inBlock (QOk.then (QOk.then (QOk.inBlock (QOk.then QOk.body)))))) (fun w => q_move rfl) ?_
                refine o_pure (i := 7) (fun j w => ⟨(fun _ _ => trivial) j w, fun _ h => h⟩) rfl rfl (by kernel_rfl) (goes0 rfl) (QOk.inBlock (QOk.inBlock (QOk.then (QOk.then (QOk.inBlock (QOk.then QOk.body)))))) (fun w => q_indexAddr (e := 46) (m := 3) rfl rfl (by kernel_rfl) (by kernel_rfl) (by first | decide | omega) (by first | decide | omega)) ?_
                refine o_held (i := 8) [9, 10, 11, 12] (fun j w => ⟨(fun _ _ => trivial) j w, fun _ h => h⟩) rfl rfl (by kernel_rfl) (goes0 rfl) (QOk.inBlock (QOk.inBlock (QOk.then (QOk.then (QOk.inBlock (QOk.then QOk.body)))))) (q_loadCs (cs := Row.cells ry) rfl (by kernel_rfl) (by kernel_rfl) (fun j u hu => own_cell (hS50.sl (i := 4) rfl) (hyt j u hu))) ?_
                refine o_eff (i := 9) (by kernel_rfl) rfl (goes0 rfl) (fun K hK => ?_)
                have hP51 := hS50.perm_head; clear hS50
                refine e_call (by kernel_rfl) (rJoin_pool (St.begin (Γ := [_]) hP51) _ _ (by omega) (by omega) _ _ _ _ hx2 hx3 _ _ _ _ hy2 hy3) rfl (after_M (Γ1 := [_]) hP51 (fun v51 G51 w51 hv51 hS51 => ?_))
                clear hP51; obtain ⟨bs2, es2, ss2, ⟨ca, pa, cc, pc, rfl, he2, hs2⟩, rfl⟩ := hv51
                subst hs2; replace he2 := he2.symm; subst he2
                refine hK _ _ ⟨⟨trivial, fun h => absurd h (by decide)⟩, fun h => absurd h (by decide)⟩ ?_; clear hK K
                refine o_eff (i := 10) (by kernel_rfl) rfl (goes0 rfl) (fun K hK => ?_)
                refine e_buildSliceA (e := 46) (m := 3) (zv := .agg #[.slice none 0 0, .slice none 0 0, .int .i64 0]) hS51 (by kernel_rfl) (by kernel_rfl) (by kernel_rfl) rfl rfl rfl rfl (fun b52 w52 hS52 => ?_)
                clear hS51
                refine hK _ _ ⟨⟨trivial, fun h => absurd h (by decide)⟩, fun h => absurd h (by decide)⟩ ?_; clear hK K
                refine o_eff (i := 11) (by kernel_rfl) rfl (goes0 rfl) (fun K hK => ?_)
                first | refine e_append (e := 46) (size := 3) (bytes := 56) (i := 5) (by kernel_rfl) hS52 rfl rfl rfl (reads_blk (hS52.blk (i := 0) rfl)) rfl (AllOne.all ⟨rfl, rfl, rfl, trivial⟩) (by first | omega | (unfold maxLen; omega)) (by first | omega | (unfold maxLen; omega)) (fun h => by cases h) (fun v53 w53 hS53 => ?_)
                clear hS52
                refine hK _ _ ⟨⟨trivial, fun h => absurd h (by decide)⟩, fun h => absurd h (by decide)⟩ ?_; clear hK K
                obtain ⟨gT1, cT1, rfl⟩ := own_some (hS53.sl (i := 5) rfl) (by omega)
                first | refine o_pure (i := 12) (fun j w => ⟨(fun j w => ⟨(fun _ _ => trivial) j w, fun _ h => h⟩) j w, fun _ h => h⟩) rfl rfl (by kernel_rfl) (goes0 rfl) (QOk.inBlock (QOk.inBlock (QOk.then (QOk.then (QOk.inBlock (QOk.then QOk.body)))))) (fun w => q_assignS rfl) ?_ | refine o_pure (i := 12) (fun j w => ⟨(fun j w => ⟨(fun _ _ => trivial) j w, fun _ h => h⟩) j w, fun _ h => h⟩) rfl rfl (by kernel_rfl) (goes0 rfl) (QOk.inBlock (QOk.inBlock (QOk.then (QOk.then (QOk.inBlock (QOk.then QOk.body)))))) (fun w => q_assign rfl) ?_
                refine o_done (by kernel_rfl) ?_
                refine hK14 _ _ (came (⟨k, m + 1, gE1, cE1, gT1, cT1, bs2, (v47, Er.join rx.e ry.e) :: es, (ca, iv (Er.join rx.e ry.e).codes) :: (pa, iv (Er.join rx.e ry.e).places) :: ss, vs ++ [v47], ts ++ Row.cells ⟨v47, Er.join rx.e ry.e, ca, pa, cc, pc⟩, rows ++ [⟨v47, Er.join rx.e ry.e, ca, pa, cc, pc⟩]⟩) (by repeat' (first | exact Agree.refl _ _ | refine Agree.up ?_ rfl | refine Agree.hav2 ?_ rfl | refine Agree.ups2 ?_ rfl)) (by first | exact trivial | exact ⟨rfl, trivial⟩ | exact ⟨rfl, rfl, trivial⟩ | exact ⟨rfl, rfl, rfl, trivial⟩ | exact ⟨rfl, rfl, rfl, rfl, trivial⟩) ?_)
                exact ⟨hS53.sub (Γ' := bG ⟨k, m + 1, gE1, cE1, gT1, cT1, bs2, (v47, Er.join rx.e ry.e) :: es, (ca, iv (Er.join rx.e ry.e).codes) :: (pa, iv (Er.join rx.e ry.e).places) :: ss, vs ++ [v47], ts ++ Row.cells ⟨v47, Er.join rx.e ry.e, ca, pa, cc, pc⟩, rows ++ [⟨v47, Er.join rx.e ry.e, ca, pa, cc, pc⟩]⟩) (by repeat' (first | exact List.Sublist.refl _ | apply List.Sublist.cons_cons | apply List.Sublist.cons)), hB.snoc (x := ⟨k, m, ga, ac, gt, tc, bs, es, ss, vs, ts, rows⟩) (fun _ h => .tail _ h) (fun _ h => .tail _ (.tail _ h)) rfl rfl (hRx.join hRy (.head _) (.head _) (.tail _ (.head _)))⟩
              ·
                have hc44b := hc44
                try simp only [decide_eq_true_eq, decide_eq_false_iff_not, Bool.not_eq_true', Bool.not_eq_false', Bool.and_eq_true, Bool.or_eq_true, Int.not_lt, Int.not_le, ne_eq, Decidable.not_not] at hc44
                have hk4 := hc44
                refine wp_skip ?_
                refine hK14 _ _ (came (⟨k, m, ga, ac, gt, tc, bs, es, ss, vs, ts, rows⟩) (by repeat' (first | exact Agree.refl _ _ | refine Agree.up ?_ rfl | refine Agree.hav2 ?_ rfl | refine Agree.ups2 ?_ rfl)) (by first | exact trivial | exact ⟨rfl, trivial⟩ | exact ⟨rfl, rfl, trivial⟩ | exact ⟨rfl, rfl, rfl, trivial⟩ | exact ⟨rfl, rfl, rfl, rfl, trivial⟩) ?_)
                exact ⟨hS21.sub (Γ' := bG ⟨k, m, ga, ac, gt, tc, bs, es, ss, vs, ts, rows⟩) (by repeat' (first | exact List.Sublist.refl _ | apply List.Sublist.cons_cons | apply List.Sublist.cons)), hB.step⟩
        ·
          obtain ⟨hS14, hB2⟩ := hJ14
          refine wp_region_lit ?_
          first | refine l_q rfl rfl (q_moveI rfl) ?_ | refine l_q rfl rfl (q_move rfl) ?_
          first | refine l_q rfl rfl (q_addx rfl rfl (by first | decide | omega) (by first | decide | omega)) ?_ | refine l_q rfl rfl (q_add rfl rfl) ?_
          first | refine l_q rfl rfl (q_assignI rfl) ?_ | refine l_q rfl rfl (q_assign rfl) ?_
          refine l_nil ?_
          refine hK8 _ _ (came ({ x14 with k := k + 1 }) (by repeat' (first | exact Agree.refl _ _ | refine Agree.up ?_ rfl | refine Agree.hav2 ?_ rfl | refine Agree.ups2 ?_ rfl)) (by repeat' (first | exact trivial | refine ⟨by first | rfl | exact int_succ _, ?_⟩)) ?_)
          exact ⟨⟨hS14, hB2, by (show k + 1 ≤ 14); omega⟩, by (show 14 - (k + 1) < 14 - k); omega⟩
      ·
        have hc12b := hc12
        try simp only [decide_eq_true_eq, decide_eq_false_iff_not, Bool.not_eq_true', Bool.not_eq_false', Bool.and_eq_true, Bool.or_eq_true, Int.not_lt, Int.not_le, ne_eq, Decidable.not_not] at hc12
        refine wp_exit ?_
        refine hK6 _ _ ?_
        refine wp_seq_k (fun K54 hK54 => ?_)
        refine wp_region_lit ?_
        first | refine l_q rfl rfl (q_moveS rfl) ?_ | refine l_q rfl rfl (q_move rfl) ?_
        first | refine l_q rfl rfl (q_moveS rfl) ?_ | refine l_q rfl rfl (q_move rfl) ?_
        first | refine l_q rfl rfl (q_assignS rfl) ?_ | refine l_q rfl rfl (q_assign rfl) ?_
        first | refine l_q rfl rfl (q_assignS rfl) ?_ | refine l_q rfl rfl (q_assign rfl) ?_
        refine l_nil ?_
        refine hK54 _ _ ?_
        refine wp_ret ?_
        refine c_ret2 rfl rfl rfl ?_
        exact ⟨_, _, rfl, ⟨_, hB, hk14', rfl, rfl⟩, hS8⟩
    ·
      have hg11b := hg11
      try simp only [decide_eq_true_eq, decide_eq_false_iff_not, Bool.not_eq_true', Bool.not_eq_false', Bool.and_eq_true, Bool.or_eq_true, Int.not_lt, Int.not_le, ne_eq, Decidable.not_not] at hg11
      refine l_off rfl rfl rfl hg11b ?_
      refine l_off rfl rfl rfl hg11b ?_
      refine l_q rfl rfl (q_pickF rfl hg11b rfl) ?_
      refine l_nil ?_
      refine hK10 _ _ ?_
      refine c_condF rfl rfl ?_
      refine wp_exit ?_
      refine hK6 _ _ ?_
      refine wp_seq_k (fun K56 hK56 => ?_)
      refine wp_region_lit ?_
      first | refine l_q rfl rfl (q_moveS rfl) ?_ | refine l_q rfl rfl (q_move rfl) ?_
      first | refine l_q rfl rfl (q_moveS rfl) ?_ | refine l_q rfl rfl (q_move rfl) ?_
      first | refine l_q rfl rfl (q_assignS rfl) ?_ | refine l_q rfl rfl (q_assign rfl) ?_
      first | refine l_q rfl rfl (q_assignS rfl) ?_ | refine l_q rfl rfl (q_assign rfl) ?_
      refine l_nil ?_
      refine hK56 _ _ ?_
      refine wp_ret ?_
      refine c_ret2 rfl rfl rfl ?_
      exact ⟨_, _, rfl, ⟨_, hB, hk14', rfl, rfl⟩, hS8⟩

end Go.Proofs.YtdlmcgflgdmjgaaDoor
