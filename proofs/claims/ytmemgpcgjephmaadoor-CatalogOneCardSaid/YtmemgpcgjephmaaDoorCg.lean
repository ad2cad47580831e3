/- law18: CatalogOne. -/
import Derived.Test.YtmemgpcgjephmaaDoorCe
set_option linter.unusedVariables false
set_option linter.unusedSimpArgs false
namespace Go.Proofs.YtmemgpcgjephmaaDoor
open Go.RowKit
attribute [local irreducible] Oper.wp Sem.run Code.wp wpList wpAnyO callFunc execOp Calls
attribute [local irreducible] toU enc encR rightB vcmp pB okc hashB hashF overN partN overI RwA PtA partsN

set_option maxHeartbeats 4000000 in
set_option maxRecDepth 100000 in
theorem one18_ok (t : Tb) (htn : Bytes t.nm) (htc : CsOk t.cs) (htb : VsOk t.bd) (ca ba : Option Addr) (cca cba : Nat) (hcc : t.cs.length ≤ cca) (L M : List Vl) (hL : VsOk L) (hM : VsOk M) (al am : Option Addr) (cl cm : Nat) (hlm : L.length ≤ 9223372036854775807) (hmm : M.length ≤ 9223372036854775807) (hcl : L.length ≤ cl) (hcm : M.length ≤ cm) (w : World) (hCG : SlG (hw w) ca (List.flatMap cc t.cs)) (hBG : SlG (hw w) ba (List.flatMap vl t.bd)) (hG : SlG (hw w) al (List.flatMap vl L)) (hGm : SlG (hw w) am (List.flatMap vl M)) : Calls Tryd.prog 4 #[.agg #[.string (bs t.nm), .slice ca t.cs.length cca, .int .i64 t.key, .int .i64 t.pt, .slice ba t.bd.length cba], .slice al L.length cl, .slice am M.length cm] w (PostR w fun v => v = .bool true) := by
  have hS := St.start w
  refine c_enter Tryd.func4 rfl rfl rfl ?_
  refine wp_seq_k (fun K1 hK1 => ?_)
  refine wp_region_lit ?_
  refine l_e rfl (fun K hK => ?_)
  refine e_boxA hS rfl (fun b2 w2 (hS2 : St _ _ [.blk b2 (.cells #[.string (bs t.nm), .slice ca t.cs.length cca, .int .i64 t.key, .int .i64 t.pt, .slice ba t.bd.length cba] 29)] _) => ?_)
  clear hS
  refine hK _ _ ?_; clear hK K
  refine l_q rfl rfl (q_assignB rfl) ?_
  refine l_nil ?_
  refine hK1 _ _ ?_
  refine wp_seq_k (fun K3 hK3 => ?_)
  refine wp_region_lit ?_
  refine l_q rfl rfl (q_loadA (m := 5) rfl (by kernel_rfl) (by kernel_rfl) (hS2.blk (i := 0) rfl) rfl rfl) ?_
  refine l_e rfl (fun K hK => ?_)
  refine e_call (by kernel_rfl) (few_ok t htn htc htb t.cs.length t.bd.length (by first | omega | (simp only [List.length_append, List.length_map, List.length_cons, List.length_nil, List.length_take, List.length_drop, List.length_set] <;> omega)) (by first | omega | (simp only [List.length_append, List.length_map, List.length_cons, List.length_nil, List.length_take, List.length_drop, List.length_set] <;> omega))  _ _ _ _ _ (hCG.mono hS2.base) (hBG.mono hS2.base)) rfl (after_R hS2 (fun v4 w4 hv4 hS4 => ?_))
  clear hS2
  obtain rfl := hv4
  refine hK _ _ ?_; clear hK K
  refine l_q rfl rfl (q_assignB rfl) ?_
  refine l_nil ?_
  refine hK3 _ _ ?_
  refine wp_seq_k (fun K5 hK5 => ?_)
  refine wp_region_lit ?_
  refine l_q rfl rfl (q_moveS rfl) ?_
  refine l_e rfl (fun K hK => ?_)
  refine e_call (by kernel_rfl) (short_ok L hL L.length (by first | omega | (simp only [List.length_append, List.length_map, List.length_cons, List.length_nil, List.length_take, List.length_drop, List.length_set] <;> omega)) _ _ _ (hG.mono hS4.base)) rfl (after_R hS4 (fun v6 w6 hv6 hS6 => ?_))
  clear hS4
  obtain rfl := hv6
  refine hK _ _ ?_; clear hK K
  refine l_q rfl rfl (q_assignB rfl) ?_
  refine l_nil ?_
  refine hK5 _ _ ?_
  refine wp_seq_k (fun K7 hK7 => ?_)
  refine wp_region_lit ?_
  refine l_q rfl rfl (q_moveS rfl) ?_
  refine l_e rfl (fun K hK => ?_)
  refine e_call (by kernel_rfl) (short_ok M hM M.length (by first | omega | (simp only [List.length_append, List.length_map, List.length_cons, List.length_nil, List.length_take, List.length_drop, List.length_set] <;> omega)) _ _ _ (hGm.mono hS6.base)) rfl (after_R hS6 (fun v8 w8 hv8 hS8 => ?_))
  clear hS6
  obtain rfl := hv8
  refine hK _ _ ?_; clear hK K
  refine l_q rfl rfl (q_assignB rfl) ?_
  refine l_nil ?_
  refine hK7 _ _ ?_
  refine wp_seq_k (fun K9 hK9 => ?_)
  refine wp_seq_k (fun K10 hK10 => ?_)
  refine wp_region_lit ?_
  refine l_q rfl rfl (q_moveB rfl) ?_
  refine l_q rfl rfl (q_not rfl) ?_
  refine l_q rfl rfl (q_moveB rfl) ?_
  refine g_splitL (t := 28) rfl (fun hg11 => ?_) (fun hg11 => ?_)
  ·
    have hg11b := hg11
    try simp only [decide_eq_true_eq, decide_eq_false_iff_not, Bool.not_eq_true', Bool.not_eq_false', Bool.and_eq_true, Bool.or_eq_true, Int.not_lt, Int.not_le, ne_eq, Decidable.not_not] at hg11
    refine l_off rfl rfl rfl hg11b ?_
    refine l_off rfl rfl rfl hg11b ?_
    refine l_q rfl rfl (q_pickT rfl hg11b rfl) ?_
    refine l_q rfl rfl (q_moveB rfl) ?_
    refine l_off rfl rfl rfl rfl ?_
    refine l_off rfl rfl rfl rfl ?_
    refine l_q rfl rfl (q_pickT rfl rfl rfl) ?_
    refine l_q rfl rfl (q_moveB rfl) ?_
    refine l_off rfl rfl rfl rfl ?_
    refine l_off rfl rfl rfl rfl ?_
    refine l_off rfl rfl rfl rfl ?_
    refine l_q rfl rfl (q_pickT rfl rfl rfl) ?_
    refine l_nil ?_
    refine hK10 _ _ ?_
    refine c_condT rfl rfl ?_
    refine wp_seq_k (fun K13 hK13 => ?_)
    refine wp_region_lit ?_
    refine l_e rfl (fun K hK => ?_)
    refine e_call (by kernel_rfl) (alive18_ok _) rfl (after_R hS8 (fun v14 w14 hv14 hS14 => ?_))
    clear hS8
    obtain rfl := hv14
    refine hK _ _ ?_; clear hK K
    refine l_q rfl rfl (q_assignB rfl) ?_
    refine l_nil ?_
    refine hK13 _ _ ?_
    refine wp_ret ?_
    refine c_ret1 rfl rfl ?_
    exact ⟨_, rfl, rfl, hS14.drop⟩
  ·
    have hg11b := hg11
    try simp only [decide_eq_true_eq, decide_eq_false_iff_not, Bool.not_eq_true', Bool.not_eq_false', Bool.and_eq_true, Bool.or_eq_true, Int.not_lt, Int.not_le, ne_eq, Decidable.not_not] at hg11
    refine l_on rfl rfl hg11b ?_
    refine l_q rfl rfl (q_moveB rfl) ?_
    refine l_on rfl rfl hg11b ?_
    refine l_q rfl rfl (q_not rfl) ?_
    refine l_q rfl rfl (q_pickF rfl hg11b rfl) ?_
    refine l_q rfl rfl (q_moveB rfl) ?_
    refine g_splitL (t := 32) rfl (fun hg15 => ?_) (fun hg15 => ?_)
    ·
      have hg15b := hg15
      try simp only [decide_eq_true_eq, decide_eq_false_iff_not, Bool.not_eq_true', Bool.not_eq_false', Bool.and_eq_true, Bool.or_eq_true, Int.not_lt, Int.not_le, ne_eq, Decidable.not_not] at hg15
      refine l_off rfl rfl rfl hg15b ?_
      refine l_off rfl rfl rfl hg15b ?_
      refine l_q rfl rfl (q_pickT rfl hg15b rfl) ?_
      refine l_q rfl rfl (q_moveB rfl) ?_
      refine l_off rfl rfl rfl rfl ?_
      refine l_off rfl rfl rfl rfl ?_
      refine l_off rfl rfl rfl rfl ?_
      refine l_q rfl rfl (q_pickT rfl rfl rfl) ?_
      refine l_nil ?_
      refine hK10 _ _ ?_
      refine c_condT rfl rfl ?_
      refine wp_seq_k (fun K17 hK17 => ?_)
      refine wp_region_lit ?_
      refine l_e rfl (fun K hK => ?_)
      refine e_call (by kernel_rfl) (alive18_ok _) rfl (after_R hS8 (fun v18 w18 hv18 hS18 => ?_))
      clear hS8
      obtain rfl := hv18
      refine hK _ _ ?_; clear hK K
      refine l_q rfl rfl (q_assignB rfl) ?_
      refine l_nil ?_
      refine hK17 _ _ ?_
      refine wp_ret ?_
      refine c_ret1 rfl rfl ?_
      exact ⟨_, rfl, rfl, hS18.drop⟩
    ·
      have hg15b := hg15
      try simp only [decide_eq_true_eq, decide_eq_false_iff_not, Bool.not_eq_true', Bool.not_eq_false', Bool.and_eq_true, Bool.or_eq_true, Int.not_lt, Int.not_le, ne_eq, Decidable.not_not] at hg15
      refine l_on rfl rfl hg15b ?_
      refine l_q rfl rfl (q_moveB rfl) ?_
      refine l_on rfl rfl hg15b ?_
      refine l_q rfl rfl (q_not rfl) ?_
      refine l_q rfl rfl (q_pickF rfl hg15b rfl) ?_
      refine l_q rfl rfl (q_moveB rfl) ?_
      refine g_splitL (t := 36) rfl (fun hg19 => ?_) (fun hg19 => ?_)
      ·
        have hg19b := hg19
        try simp only [decide_eq_true_eq, decide_eq_false_iff_not, Bool.not_eq_true', Bool.not_eq_false', Bool.and_eq_true, Bool.or_eq_true, Int.not_lt, Int.not_le, ne_eq, Decidable.not_not] at hg19
        refine l_off rfl rfl rfl hg19b ?_
        refine l_off rfl rfl rfl hg19b ?_
        refine l_off rfl rfl rfl hg19b ?_
        refine l_q rfl rfl (q_pickT rfl hg19b rfl) ?_
        refine l_nil ?_
        refine hK10 _ _ ?_
        refine c_condT rfl rfl ?_
        refine wp_seq_k (fun K21 hK21 => ?_)
        refine wp_region_lit ?_
        refine l_e rfl (fun K hK => ?_)
        refine e_call (by kernel_rfl) (alive18_ok _) rfl (after_R hS8 (fun v22 w22 hv22 hS22 => ?_))
        clear hS8
        obtain rfl := hv22
        refine hK _ _ ?_; clear hK K
        refine l_q rfl rfl (q_assignB rfl) ?_
        refine l_nil ?_
        refine hK21 _ _ ?_
        refine wp_ret ?_
        refine c_ret1 rfl rfl ?_
        exact ⟨_, rfl, rfl, hS22.drop⟩
      ·
        have hg19b := hg19
        try simp only [decide_eq_true_eq, decide_eq_false_iff_not, Bool.not_eq_true', Bool.not_eq_false', Bool.and_eq_true, Bool.or_eq_true, Int.not_lt, Int.not_le, ne_eq, Decidable.not_not] at hg19
        refine l_on rfl rfl hg19b ?_
        refine l_q rfl rfl (q_loadA (m := 5) rfl (by kernel_rfl) (by kernel_rfl) (hS8.blk (i := 0) rfl) rfl rfl) ?_
        by_cases hRt : RtP t
        ·
          have hfw : FewP t := pB_iff.1 (by assumption)
          obtain ⟨hfw1, hfw2, hfw3, _⟩ := hfw
          have hsL := (pB_iff.1 (show pB (ShP L) = true by assumption)).1
          have hsM := (pB_iff.1 (show pB (ShP M) = true by assumption)).1
          have hRt' := hRt
          obtain ⟨⟨_, hq1, hq2, hq3, hq4, hq5, hq6, _⟩, _⟩ := hRt'
          refine l_on rfl rfl hg19b ?_
          refine l_e rfl (fun K hK => ?_)
          refine e_call (by kernel_rfl) (cright_yes t htn htc htb t.cs.length t.bd.length (by first | omega | (simp only [List.length_append, List.length_map, List.length_cons, List.length_nil, List.length_take, List.length_drop, List.length_set] <;> omega)) (by first | omega | (simp only [List.length_append, List.length_map, List.length_cons, List.length_nil, List.length_take, List.length_drop, List.length_set] <;> omega)) (by first | omega | (simp only [List.length_append, List.length_map, List.length_cons, List.length_nil, List.length_take, List.length_drop, List.length_set] <;> omega)) (by first | omega | (simp only [List.length_append, List.length_map, List.length_cons, List.length_nil, List.length_take, List.length_drop, List.length_set] <;> omega)) hRt _ _ _ _ _ (hCG.mono hS8.base) (hBG.mono hS8.base) (by first | omega | assumption)) rfl (after_N hS8 (fun v23 G23 w23 hv23 hS23 => ?_))
          clear hS8
          obtain ⟨rfl, rfl⟩ := hv23
          have hS24 : St _ _ [.blk b2 (.cells #[.string (bs t.nm), .slice ca t.cs.length cca, .int .i64 t.key, .int .i64 t.pt, .slice ba t.bd.length cba] 29)] _ := hS23; clear hS23
          refine hK _ _ ?_; clear hK K
          refine l_on rfl rfl hg19b ?_
          refine l_q rfl rfl (q_ine1 rfl (by kernel_rfl)) ?_
          refine l_q rfl rfl (q_pickF rfl hg19b rfl) ?_
          refine l_nil ?_
          refine hK10 _ _ ?_
          refine c_condF rfl rfl ?_
          refine wp_skip ?_
          refine hK9 _ _ ?_
          refine wp_seq_k (fun K26 hK26 => ?_)
          refine wp_region_lit ?_
          refine l_q rfl rfl (q_loadA (m := 5) rfl (by kernel_rfl) (by kernel_rfl) (hS24.blk (i := 0) rfl) rfl rfl) ?_
          refine l_q rfl rfl (q_moveS rfl) ?_
          by_cases hRa : RwP t L
          ·
            refine l_e rfl (fun K hK => ?_)
            refine e_call (by kernel_rfl) (crow_yes t htn htc htb t.cs.length t.bd.length (by first | omega | (simp only [List.length_append, List.length_map, List.length_cons, List.length_nil, List.length_take, List.length_drop, List.length_set] <;> omega)) (by first | omega | (simp only [List.length_append, List.length_map, List.length_cons, List.length_nil, List.length_take, List.length_drop, List.length_set] <;> omega)) (by first | omega | (simp only [List.length_append, List.length_map, List.length_cons, List.length_nil, List.length_take, List.length_drop, List.length_set] <;> omega)) (by first | omega | (simp only [List.length_append, List.length_map, List.length_cons, List.length_nil, List.length_take, List.length_drop, List.length_set] <;> omega)) hRt L hRa hL L.length (by first | omega | (simp only [List.length_append, List.length_map, List.length_cons, List.length_nil, List.length_take, List.length_drop, List.length_set] <;> omega)) (by first | omega | (simp only [List.length_append, List.length_map, List.length_cons, List.length_nil, List.length_take, List.length_drop, List.length_set] <;> omega)) (by first | omega | assumption) _ _ (hG.mono hS24.base) _ _ _ _ (hCG.mono hS24.base) (hBG.mono hS24.base)) rfl (after_N hS24 (fun v27 G27 w27 hv27 hS27 => ?_))
            clear hS24
            obtain ⟨ad27, cp27, rfl, rfl⟩ := hv27
            have hS28 : St _ _ [.ow 32 3 ad27 t.key.toNat cp27 (List.flatMap vl (L.take t.key.toNat)), .blk b2 (.cells #[.string (bs t.nm), .slice ca t.cs.length cca, .int .i64 t.key, .int .i64 t.pt, .slice ba t.bd.length cba] 29)] _ := hS27; clear hS27
            refine hK _ _ ?_; clear hK K
            refine l_q rfl rfl (q_move rfl) ?_
            refine l_q rfl rfl (q_extract rfl rfl) ?_
            refine l_q rfl rfl (q_extract rfl rfl) ?_
            refine l_q rfl rfl (q_assignS rfl) ?_
            refine l_q rfl rfl (q_assign rfl) ?_
            refine l_nil ?_
            refine hK26 _ _ ?_
            refine wp_seq_k (fun K29 hK29 => ?_)
            refine wp_region_lit ?_
            refine l_q rfl rfl (q_loadA (m := 5) rfl (by kernel_rfl) (by kernel_rfl) (hS28.blk (i := 1) rfl) rfl rfl) ?_
            refine l_q rfl rfl (q_moveS rfl) ?_
            by_cases hRb : RwP t M
            ·
              refine l_e rfl (fun K hK => ?_)
              refine e_call (by kernel_rfl) (crow_yes t htn htc htb t.cs.length t.bd.length (by first | omega | (simp only [List.length_append, List.length_map, List.length_cons, List.length_nil, List.length_take, List.length_drop, List.length_set] <;> omega)) (by first | omega | (simp only [List.length_append, List.length_map, List.length_cons, List.length_nil, List.length_take, List.length_drop, List.length_set] <;> omega)) (by first | omega | (simp only [List.length_append, List.length_map, List.length_cons, List.length_nil, List.length_take, List.length_drop, List.length_set] <;> omega)) (by first | omega | (simp only [List.length_append, List.length_map, List.length_cons, List.length_nil, List.length_take, List.length_drop, List.length_set] <;> omega)) hRt M hRb hM M.length (by first | omega | (simp only [List.length_append, List.length_map, List.length_cons, List.length_nil, List.length_take, List.length_drop, List.length_set] <;> omega)) (by first | omega | (simp only [List.length_append, List.length_map, List.length_cons, List.length_nil, List.length_take, List.length_drop, List.length_set] <;> omega)) (by first | omega | assumption) _ _ (hGm.mono hS28.base) _ _ _ _ (hCG.mono hS28.base) (hBG.mono hS28.base)) rfl (after_N hS28 (fun v30 G30 w30 hv30 hS30 => ?_))
              clear hS28
              obtain ⟨ad30, cp30, rfl, rfl⟩ := hv30
              have hS31 : St _ _ [.ow 32 3 ad30 t.key.toNat cp30 (List.flatMap vl (M.take t.key.toNat)), .ow 32 3 ad27 t.key.toNat cp27 (List.flatMap vl (L.take t.key.toNat)), .blk b2 (.cells #[.string (bs t.nm), .slice ca t.cs.length cca, .int .i64 t.key, .int .i64 t.pt, .slice ba t.bd.length cba] 29)] _ := hS30; clear hS30
              refine hK _ _ ?_; clear hK K
              refine l_q rfl rfl (q_move rfl) ?_
              refine l_q rfl rfl (q_extract rfl rfl) ?_
              refine l_q rfl rfl (q_extract rfl rfl) ?_
              refine l_q rfl rfl (q_assignS rfl) ?_
              refine l_q rfl rfl (q_assign rfl) ?_
              refine l_nil ?_
              refine hK29 _ _ ?_
              refine wp_seq_k (fun K32 hK32 => ?_)
              refine wp_seq_k (fun K33 hK33 => ?_)
              refine wp_region_lit ?_
              refine l_q rfl rfl (q_move rfl) ?_
              refine l_q rfl rfl (q_ine1 rfl (by kernel_rfl)) ?_
              refine l_q rfl rfl (q_moveB rfl) ?_
              refine l_on rfl rfl rfl ?_
              refine l_q rfl rfl (q_move rfl) ?_
              refine l_on rfl rfl rfl ?_
              refine l_q rfl rfl (q_ine1 rfl (by kernel_rfl)) ?_
              refine l_q rfl rfl (q_pickF rfl rfl rfl) ?_
              refine l_nil ?_
              refine hK33 _ _ ?_
              refine c_condF rfl rfl ?_
              refine wp_skip ?_
              refine hK32 _ _ ?_
              refine wp_seq_k (fun K35 hK35 => ?_)
              have hka := row_key hRt hRa
              have htla : (L.take t.key.toNat).length = t.key.toNat := by have := hka.2.2.1; omega
              have hpla := partN_lt (t := t) (l := L.take t.key.toNat) hRt.1.2.2.2.2.2.1
              have hkb := row_key hRt hRb
              have htlb : (M.take t.key.toNat).length = t.key.toNat := by have := hkb.2.2.1; omega
              have hplb := partN_lt (t := t) (l := M.take t.key.toNat) hRt.1.2.2.2.2.2.1
              have hky := hka.2.2.2
              have hkp : 0 < t.key.toNat := by omega
              refine wp_region_lit ?_
              refine l_q rfl rfl (q_loadA (m := 5) rfl (by kernel_rfl) (by kernel_rfl) (hS31.blk (i := 2) rfl) rfl rfl) ?_
              refine l_q rfl rfl (q_moveS rfl) ?_
              refine l_e rfl (fun K hK => ?_)
              refine e_call (by kernel_rfl) (cpart_yes t htn htc htb t.cs.length t.bd.length (by first | omega | (simp only [List.length_append, List.length_map, List.length_cons, List.length_nil, List.length_take, List.length_drop, List.length_set] <;> omega)) (by first | omega | (simp only [List.length_append, List.length_map, List.length_cons, List.length_nil, List.length_take, List.length_drop, List.length_set] <;> omega)) (by first | omega | (simp only [List.length_append, List.length_map, List.length_cons, List.length_nil, List.length_take, List.length_drop, List.length_set] <;> omega)) (by first | omega | (simp only [List.length_append, List.length_map, List.length_cons, List.length_nil, List.length_take, List.length_drop, List.length_set] <;> omega)) hRt (L.take t.key.toNat) ⟨hka.1, hka.2.1⟩ (VsOk.take hL) t.key.toNat (by first | omega | (simp only [List.length_append, List.length_map, List.length_cons, List.length_nil, List.length_take, List.length_drop, List.length_set] <;> omega)) _ _ (by first | omega | (simp only [List.length_append, List.length_map, List.length_cons, List.length_nil, List.length_take, List.length_drop, List.length_set] <;> omega)) (hS31.owG (i := 1) rfl) _ _ _ _ (hCG.mono hS31.base) (hBG.mono hS31.base)) rfl (after_N hS31 (fun v36 G36 w36 hv36 hS36 => ?_))
              clear hS31
              obtain ⟨rfl, rfl⟩ := hv36
              have hS37 : St _ _ [.ow 32 3 ad30 t.key.toNat cp30 (List.flatMap vl (M.take t.key.toNat)), .ow 32 3 ad27 t.key.toNat cp27 (List.flatMap vl (L.take t.key.toNat)), .blk b2 (.cells #[.string (bs t.nm), .slice ca t.cs.length cca, .int .i64 t.key, .int .i64 t.pt, .slice ba t.bd.length cba] 29)] _ := hS36; clear hS36
              refine hK _ _ ?_; clear hK K
              refine l_q rfl rfl (q_move rfl) ?_
              refine l_q rfl rfl (q_extract rfl rfl) ?_
              refine l_q rfl rfl (q_extract rfl rfl) ?_
              refine l_q rfl rfl (q_assignI rfl) ?_
              refine l_q rfl rfl (q_assign rfl) ?_
              refine l_nil ?_
              refine hK35 _ _ ?_
              refine wp_seq_k (fun K38 hK38 => ?_)
              refine wp_region_lit ?_
              refine l_q rfl rfl (q_loadA (m := 5) rfl (by kernel_rfl) (by kernel_rfl) (hS37.blk (i := 2) rfl) rfl rfl) ?_
              refine l_q rfl rfl (q_moveS rfl) ?_
              refine l_e rfl (fun K hK => ?_)
              refine e_call (by kernel_rfl) (cpart_yes t htn htc htb t.cs.length t.bd.length (by first | omega | (simp only [List.length_append, List.length_map, List.length_cons, List.length_nil, List.length_take, List.length_drop, List.length_set] <;> omega)) (by first | omega | (simp only [List.length_append, List.length_map, List.length_cons, List.length_nil, List.length_take, List.length_drop, List.length_set] <;> omega)) (by first | omega | (simp only [List.length_append, List.length_map, List.length_cons, List.length_nil, List.length_take, List.length_drop, List.length_set] <;> omega)) (by first | omega | (simp only [List.length_append, List.length_map, List.length_cons, List.length_nil, List.length_take, List.length_drop, List.length_set] <;> omega)) hRt (M.take t.key.toNat) ⟨hkb.1, hkb.2.1⟩ (VsOk.take hM) t.key.toNat (by first | omega | (simp only [List.length_append, List.length_map, List.length_cons, List.length_nil, List.length_take, List.length_drop, List.length_set] <;> omega)) _ _ (by first | omega | (simp only [List.length_append, List.length_map, List.length_cons, List.length_nil, List.length_take, List.length_drop, List.length_set] <;> omega)) (hS37.owG (i := 0) rfl) _ _ _ _ (hCG.mono hS37.base) (hBG.mono hS37.base)) rfl (after_N hS37 (fun v39 G39 w39 hv39 hS39 => ?_))
              clear hS37
              obtain ⟨rfl, rfl⟩ := hv39
              have hS40 : St _ _ [.ow 32 3 ad30 t.key.toNat cp30 (List.flatMap vl (M.take t.key.toNat)), .ow 32 3 ad27 t.key.toNat cp27 (List.flatMap vl (L.take t.key.toNat)), .blk b2 (.cells #[.string (bs t.nm), .slice ca t.cs.length cca, .int .i64 t.key, .int .i64 t.pt, .slice ba t.bd.length cba] 29)] _ := hS39; clear hS39
              refine hK _ _ ?_; clear hK K
              refine l_q rfl rfl (q_move rfl) ?_
              refine l_q rfl rfl (q_extract rfl rfl) ?_
              refine l_q rfl rfl (q_extract rfl rfl) ?_
              refine l_q rfl rfl (q_assignI rfl) ?_
              refine l_q rfl rfl (q_assign rfl) ?_
              refine l_nil ?_
              refine hK38 _ _ ?_
              refine wp_seq_k (fun K41 hK41 => ?_)
              refine wp_seq_k (fun K42 hK42 => ?_)
              refine wp_region_lit ?_
              refine l_q rfl rfl (q_move rfl) ?_
              refine l_q rfl rfl (q_ine1 rfl (by kernel_rfl)) ?_
              refine l_q rfl rfl (q_moveB rfl) ?_
              refine l_on rfl rfl rfl ?_
              refine l_q rfl rfl (q_move rfl) ?_
              refine l_on rfl rfl rfl ?_
              refine l_q rfl rfl (q_ine1 rfl (by kernel_rfl)) ?_
              refine l_q rfl rfl (q_pickF rfl rfl rfl) ?_
              refine l_q rfl rfl (q_moveB rfl) ?_
              refine l_on rfl rfl rfl ?_
              refine l_q rfl rfl (q_moveI rfl) ?_
              refine l_on rfl rfl rfl ?_
              refine l_q rfl rfl (q_lss rfl rfl) ?_
              refine l_q rfl rfl (q_pickF rfl rfl rfl) ?_
              refine l_q rfl rfl (q_moveB rfl) ?_
              refine l_on rfl rfl (decide_eq_false (by omega)) ?_
              refine l_q rfl rfl (q_moveI rfl) ?_
              refine l_on rfl rfl (decide_eq_false (by omega)) ?_
              refine l_q rfl rfl (q_loadA (m := 5) rfl (by kernel_rfl) (by kernel_rfl) (hS40.blk (i := 2) rfl) rfl rfl) ?_
              refine l_on rfl rfl (decide_eq_false (by omega)) ?_
              refine l_e rfl (fun K hK => ?_)
              refine e_call (by kernel_rfl) (parts_ok t htn htc htb t.cs.length t.bd.length (by first | omega | (simp only [List.length_append, List.length_map, List.length_cons, List.length_nil, List.length_take, List.length_drop, List.length_set] <;> omega)) (by first | omega | (simp only [List.length_append, List.length_map, List.length_cons, List.length_nil, List.length_take, List.length_drop, List.length_set] <;> omega)) (by first | omega | (simp only [List.length_append, List.length_map, List.length_cons, List.length_nil, List.length_take, List.length_drop, List.length_set] <;> omega)) (by first | omega | (simp only [List.length_append, List.length_map, List.length_cons, List.length_nil, List.length_take, List.length_drop, List.length_set] <;> omega)) _ _ _ _ _ (hCG.mono hS40.base) (hBG.mono hS40.base)) rfl (after_R hS40 (fun v44 w44 hv44 hS44 => ?_))
              clear hS40
              obtain rfl := hv44
              refine hK _ _ ?_; clear hK K
              refine l_on rfl rfl (decide_eq_false (by omega)) ?_
              refine l_q rfl rfl (q_geq rfl rfl) ?_
              refine l_q rfl rfl (q_pickF rfl (decide_eq_false (by omega)) rfl) ?_
              refine l_q rfl rfl (q_moveB rfl) ?_
              refine l_on rfl rfl (decide_eq_false (by omega)) ?_
              refine l_q rfl rfl (q_moveI rfl) ?_
              refine l_on rfl rfl (decide_eq_false (by omega)) ?_
              refine l_q rfl rfl (q_lss rfl rfl) ?_
              refine l_q rfl rfl (q_pickF rfl (decide_eq_false (by omega)) rfl) ?_
              refine l_q rfl rfl (q_moveB rfl) ?_
              refine l_on rfl rfl (decide_eq_false (by omega)) ?_
              refine l_q rfl rfl (q_moveI rfl) ?_
              refine l_on rfl rfl (decide_eq_false (by omega)) ?_
              refine l_q rfl rfl (q_loadA (m := 5) rfl (by kernel_rfl) (by kernel_rfl) (hS44.blk (i := 2) rfl) rfl rfl) ?_
              refine l_on rfl rfl (decide_eq_false (by omega)) ?_
              refine l_e rfl (fun K hK => ?_)
              refine e_call (by kernel_rfl) (parts_ok t htn htc htb t.cs.length t.bd.length (by first | omega | (simp only [List.length_append, List.length_map, List.length_cons, List.length_nil, List.length_take, List.length_drop, List.length_set] <;> omega)) (by first | omega | (simp only [List.length_append, List.length_map, List.length_cons, List.length_nil, List.length_take, List.length_drop, List.length_set] <;> omega)) (by first | omega | (simp only [List.length_append, List.length_map, List.length_cons, List.length_nil, List.length_take, List.length_drop, List.length_set] <;> omega)) (by first | omega | (simp only [List.length_append, List.length_map, List.length_cons, List.length_nil, List.length_take, List.length_drop, List.length_set] <;> omega)) _ _ _ _ _ (hCG.mono hS44.base) (hBG.mono hS44.base)) rfl (after_R hS44 (fun v47 w47 hv47 hS47 => ?_))
              clear hS44
              obtain rfl := hv47
              refine hK _ _ ?_; clear hK K
              refine l_on rfl rfl (decide_eq_false (by omega)) ?_
              refine l_q rfl rfl (q_geq rfl rfl) ?_
              refine l_q rfl rfl (q_pickF rfl (decide_eq_false (by omega)) rfl) ?_
              refine l_q rfl rfl (q_moveB rfl) ?_
              refine l_on rfl rfl (decide_eq_false (by omega)) ?_
              refine l_q rfl rfl (q_moveS rfl) ?_
              refine l_on rfl rfl (decide_eq_false (by omega)) ?_
              refine l_q rfl rfl (q_lenSl (e := 32) rfl (by kernel_rfl)) ?_
              refine l_on rfl rfl (decide_eq_false (by omega)) ?_
              refine l_q rfl rfl (q_fieldAddr (ft := 3) (o := 2) rfl (by kernel_rfl)) ?_
              refine l_on rfl rfl (decide_eq_false (by omega)) ?_
              refine l_q rfl rfl (q_load1 rfl (by kernel_rfl) (hS47.cell (i := 2) rfl rfl)) ?_
              refine l_on rfl rfl (decide_eq_false (by omega)) ?_
              refine l_q rfl rfl (q_neq rfl rfl) ?_
              refine l_q rfl rfl (q_pickF rfl (decide_eq_false (by omega)) rfl) ?_
              refine l_nil ?_
              refine hK42 _ _ ?_
              refine c_condF rfl (by have := hka.2.2.1; simp only [decide_eq_false_iff_not, Decidable.not_not, Bool.not_eq_false', decide_eq_true_eq, ne_eq]; omega) ?_
              refine wp_skip ?_
              refine hK41 _ _ ?_
              refine wp_seq_k (fun K50 hK50 => ?_)
              refine wp_region_lit ?_
              refine l_q rfl rfl (q_moveS rfl) ?_
              refine l_q rfl rfl (q_moveS rfl) ?_
              refine l_e rfl (fun K hK => ?_)
              refine e_call (by kernel_rfl) (same_ok (L.take t.key.toNat) (M.take t.key.toNat) (VsOk.take hL) (VsOk.take hM) t.key.toNat t.key.toNat _ _ (by first | omega | (simp only [List.length_append, List.length_map, List.length_cons, List.length_nil, List.length_take, List.length_drop, List.length_set] <;> omega)) (by first | omega | (simp only [List.length_append, List.length_map, List.length_cons, List.length_nil, List.length_take, List.length_drop, List.length_set] <;> omega)) _ _ (by first | omega | (simp only [List.length_append, List.length_map, List.length_cons, List.length_nil, List.length_take, List.length_drop, List.length_set] <;> omega)) _ (hS47.owG (i := 1) rfl) (hS47.owG (i := 0) rfl)) rfl (after_R hS47 (fun v51 w51 hv51 hS51 => ?_))
              clear hS47
              obtain rfl := hv51
              refine hK _ _ ?_; clear hK K
              refine l_q rfl rfl (q_assignB rfl) ?_
              refine l_nil ?_
              refine hK50 _ _ ?_
              refine wp_seq_k (fun K52 hK52 => ?_)
              have hp900 : 0 < (L.take t.key.toNat).length := Nat.lt_of_lt_of_eq hkp htla.symm
              have he900 : ∃ x, (L.take t.key.toNat)[0]? = some x := ⟨_, List.getElem?_eq_getElem hp900⟩
              obtain ⟨x900, hx900⟩ := he900
              have hp901 : 0 < (M.take t.key.toNat).length := Nat.lt_of_lt_of_eq hkp htlb.symm
              have he901 : ∃ x, (M.take t.key.toNat)[0]? = some x := ⟨_, List.getElem?_eq_getElem hp901⟩
              obtain ⟨x901, hx901⟩ := he901
              refine r_any (by kernel_rfl) hS51 (fun w53 hS53 => ?_)
              clear hS51
              refine o_pure (i := 0) (fun _ _ => trivial) rfl rfl (by kernel_rfl) (goes0 rfl) (QOk.then QOk.body) (fun w => q_moveS rfl) ?_
              refine o_pure (i := 1) (fun _ _ => trivial) rfl rfl (by kernel_rfl) (goes0 rfl) (QOk.then QOk.body) (fun w => q_ixG (e := 32) (m := 3) (j := 0) rfl rfl (by kernel_rfl) (by kernel_rfl) (by first | rfl | omega) (by omega) (hS53.owG (i := 1) rfl) (by rw [rows_len (c := vl) (m := 3) (fun _ => rfl)]; first | omega | (simp only [List.length_append, List.length_map, List.length_cons, List.length_nil, List.length_take, List.length_drop, List.length_set] <;> omega))) ?_
              refine o_held (i := 2) [6, 7, 8] (fun _ _ => trivial) rfl rfl (by kernel_rfl) (goes0 rfl) (QOk.then QOk.body) (q_loadGA (m := 3) rfl (by kernel_rfl) (by kernel_rfl) (hS53.owG (i := 1) rfl) (row_take hx900 (c := vl) (m := 3) (fun _ => rfl)) rfl (by decide)) ?_
              refine o_pure (i := 3) (fun j w => ⟨(fun _ _ => trivial) j w, fun _ h => h⟩) rfl rfl (by kernel_rfl) (goes0 rfl) (QOk.then QOk.body) (fun w => q_moveS rfl) ?_
              refine o_pure (i := 4) (fun j w => ⟨(fun _ _ => trivial) j w, fun _ h => h⟩) rfl rfl (by kernel_rfl) (goes0 rfl) (QOk.then QOk.body) (fun w => q_ixG (e := 32) (m := 3) (j := 0) rfl rfl (by kernel_rfl) (by kernel_rfl) (by first | rfl | omega) (by omega) (hS53.owG (i := 0) rfl) (by rw [rows_len (c := vl) (m := 3) (fun _ => rfl)]; first | omega | (simp only [List.length_append, List.length_map, List.length_cons, List.length_nil, List.length_take, List.length_drop, List.length_set] <;> omega))) ?_
              refine o_held (i := 5) [6, 7, 8] (fun j w => ⟨(fun _ _ => trivial) j w, fun _ h => h⟩) rfl rfl (by kernel_rfl) (goes0 rfl) (QOk.then QOk.body) (q_loadGA (m := 3) rfl (by kernel_rfl) (by kernel_rfl) (hS53.owG (i := 0) rfl) (row_take hx901 (c := vl) (m := 3) (fun _ => rfl)) rfl (by decide)) ?_
              refine o_eff (i := 6) (by kernel_rfl) rfl (goes0 rfl) (fun K hK => ?_)
              refine e_call (by kernel_rfl) (rorder_ok x900 x901 ((VsOk.take hL) x900 (List.mem_of_getElem? hx900)).1 ((VsOk.take hM) x901 (List.mem_of_getElem? hx901)).1 _) rfl (after_R hS53 (fun v54 w54 hv54 hS54 => ?_))
              clear hS53
              obtain rfl := hv54
              refine hK _ _ ⟨⟨trivial, fun h => absurd h (by decide)⟩, fun h => absurd h (by decide)⟩ ?_; clear hK K
              refine o_pure (i := 7) (fun j w => ⟨(fun j w => ⟨(fun _ _ => trivial) j w, fun _ h => h⟩) j w, fun _ h => h⟩) rfl rfl (by kernel_rfl) (goes0 rfl) (QOk.then QOk.body) (fun w => q_leq rfl rfl) ?_
              refine o_pure (i := 8) (fun j w => ⟨(fun j w => ⟨(fun _ _ => trivial) j w, fun _ h => h⟩) j w, fun _ h => h⟩) rfl rfl (by kernel_rfl) (goes0 rfl) (QOk.then QOk.body) (fun w => q_assignB rfl) ?_
              refine o_done (by kernel_rfl) ?_
              refine hK52 _ _ ?_
              refine wp_seq_k (fun K55 hK55 => ?_)
              refine wp_region_lit ?_
              refine l_e rfl (fun K hK => ?_)
              refine e_call (by kernel_rfl) (alive18_ok _) rfl (after_R hS54 (fun v56 w56 hv56 hS56 => ?_))
              clear hS54
              obtain rfl := hv56
              refine hK _ _ ?_; clear hK K
              refine l_q rfl rfl (q_moveB rfl) ?_
              refine l_on rfl rfl rfl ?_
              refine l_q rfl rfl (q_moveB rfl) ?_
              refine l_on rfl rfl rfl ?_
              refine l_q rfl rfl (q_not rfl) ?_
              refine l_on rfl rfl rfl ?_
              refine l_q rfl rfl (q_moveB rfl) ?_
              refine g_splitL (t := 139) rfl (fun hg57 => ?_) (fun hg57 => ?_)
              ·
                have hg57b := hg57
                try simp only [decide_eq_true_eq, decide_eq_false_iff_not, Bool.not_eq_true', Bool.not_eq_false', Bool.and_eq_true, Bool.or_eq_true, Int.not_lt, Int.not_le, ne_eq, Decidable.not_not] at hg57
                refine l_off rfl rfl rfl hg57b ?_
                refine l_off rfl rfl rfl hg57b ?_
                refine l_off rfl rfl rfl hg57b ?_
                refine l_on rfl rfl rfl ?_
                refine l_q rfl rfl (q_pickT rfl hg57b rfl) ?_
                refine l_q rfl rfl (q_pickT rfl rfl rfl) ?_
                refine l_q rfl rfl (q_moveB rfl) ?_
                refine l_on rfl rfl rfl ?_
                refine l_q rfl rfl (q_fieldAddr (ft := 3) (o := 3) rfl (by kernel_rfl)) ?_
                refine l_on rfl rfl rfl ?_
                refine l_q rfl rfl (q_load1 rfl (by kernel_rfl) (hS56.cell (i := 2) rfl rfl)) ?_
                refine l_on rfl rfl rfl ?_
                refine l_q rfl rfl (q_gtr rfl rfl) ?_
                refine l_on rfl rfl rfl ?_
                refine l_q rfl rfl (q_moveB rfl) ?_
                refine g_splitL (t := 149) rfl (fun hg58 => ?_) (fun hg58 => ?_)
                ·
                  have hg58b := hg58
                  try simp only [decide_eq_true_eq, decide_eq_false_iff_not, Bool.not_eq_true', Bool.not_eq_false', Bool.and_eq_true, Bool.or_eq_true, Int.not_lt, Int.not_le, ne_eq, Decidable.not_not] at hg58
                  refine l_off rfl rfl rfl hg58b ?_
                  refine l_off rfl rfl rfl hg58b ?_
                  refine l_on rfl rfl rfl ?_
                  refine l_q rfl rfl (q_pickT rfl hg58b rfl) ?_
                  refine l_on rfl rfl rfl ?_
                  refine l_q rfl rfl (q_moveB rfl) ?_
                  refine l_off rfl rfl rfl rfl ?_
                  refine l_off rfl rfl rfl rfl ?_
                  refine l_off rfl rfl rfl rfl ?_
                  refine l_on rfl rfl rfl ?_
                  refine l_q rfl rfl (q_pickT rfl rfl rfl) ?_
                  refine l_q rfl rfl (q_pickT rfl rfl rfl) ?_
                  refine l_q rfl rfl (q_assignB rfl) ?_
                  refine l_nil ?_
                  refine hK55 _ _ ?_
                  refine wp_ret ?_
                  refine c_ret1 rfl rfl ?_
                  exact ⟨_, rfl, rfl, hS56.drop⟩
                ·
                  have hg58b := hg58
                  try simp only [decide_eq_true_eq, decide_eq_false_iff_not, Bool.not_eq_true', Bool.not_eq_false', Bool.and_eq_true, Bool.or_eq_true, Int.not_lt, Int.not_le, ne_eq, Decidable.not_not] at hg58
                  refine l_on rfl rfl hg58b ?_
                  refine l_q rfl rfl (q_moveB rfl) ?_
                  refine l_on rfl rfl hg58b ?_
                  refine l_q rfl rfl (q_not rfl) ?_
                  refine l_on rfl rfl rfl ?_
                  refine l_q rfl rfl (q_pickF rfl hg58b rfl) ?_
                  refine l_on rfl rfl rfl ?_
                  refine l_q rfl rfl (q_moveB rfl) ?_
                  refine g_splitL (t := 153) rfl (fun hg59 => ?_) (fun hg59 => ?_)
                  ·
                    have hg59b := hg59
                    try simp only [decide_eq_true_eq, decide_eq_false_iff_not, Bool.not_eq_true', Bool.not_eq_false', Bool.and_eq_true, Bool.or_eq_true, Int.not_lt, Int.not_le, ne_eq, Decidable.not_not] at hg59
                    refine l_off rfl rfl rfl hg59b ?_
                    refine l_off rfl rfl rfl hg59b ?_
                    refine l_off rfl rfl rfl hg59b ?_
                    refine l_on rfl rfl rfl ?_
                    refine l_q rfl rfl (q_pickT rfl hg59b rfl) ?_
                    refine l_q rfl rfl (q_pickT rfl rfl rfl) ?_
                    refine l_q rfl rfl (q_assignB rfl) ?_
                    refine l_nil ?_
                    refine hK55 _ _ ?_
                    refine wp_ret ?_
                    refine c_ret1 rfl rfl ?_
                    exact ⟨_, rfl, rfl, hS56.drop⟩
                  ·
                    have hg59b := hg59
                    try simp only [decide_eq_true_eq, decide_eq_false_iff_not, Bool.not_eq_true', Bool.not_eq_false', Bool.and_eq_true, Bool.or_eq_true, Int.not_lt, Int.not_le, ne_eq, Decidable.not_not] at hg59
                    refine l_on rfl rfl hg59b ?_
                    refine l_q rfl rfl (q_moveI rfl) ?_
                    refine l_on rfl rfl hg59b ?_
                    refine l_q rfl rfl (q_moveI rfl) ?_
                    refine l_on rfl rfl hg59b ?_
                    refine l_q rfl rfl (q_leq rfl rfl) ?_
                    refine l_on rfl rfl rfl ?_
                    refine l_q rfl rfl (q_pickF rfl hg59b rfl) ?_
                    refine l_q rfl rfl (q_pickT rfl rfl rfl) ?_
                    refine l_q rfl rfl (q_assignB rfl) ?_
                    refine l_nil ?_
                    refine hK55 _ _ ?_
                    refine wp_ret ?_
                    refine c_ret1 rfl rfl ?_
                    exact ⟨_, rfl, congrArg Value.bool (decide_eq_true (by have := partN_mono (t := t) hx900 hx901 (by omega) (by assumption); omega)), hS56.drop⟩
              ·
                have hg57b := hg57
                try simp only [decide_eq_true_eq, decide_eq_false_iff_not, Bool.not_eq_true', Bool.not_eq_false', Bool.and_eq_true, Bool.or_eq_true, Int.not_lt, Int.not_le, ne_eq, Decidable.not_not] at hg57
                have hE : L.take t.key.toNat = M.take t.key.toNat := hg57
                refine l_on rfl rfl hg57b ?_
                refine l_q rfl rfl (q_moveI rfl) ?_
                refine l_on rfl rfl hg57b ?_
                refine l_q rfl rfl (q_moveI rfl) ?_
                refine l_on rfl rfl hg57b ?_
                refine l_q rfl rfl (q_eql rfl rfl) ?_
                refine l_on rfl rfl rfl ?_
                refine l_q rfl rfl (q_pickF rfl hg57b rfl) ?_
                refine l_q rfl rfl (q_pickT rfl rfl rfl) ?_
                refine l_q rfl rfl (q_moveB rfl) ?_
                refine l_on rfl rfl (decide_eq_true (by rw [hE])) ?_
                refine l_q rfl rfl (q_fieldAddr (ft := 3) (o := 3) rfl (by kernel_rfl)) ?_
                refine l_on rfl rfl (decide_eq_true (by rw [hE])) ?_
                refine l_q rfl rfl (q_load1 rfl (by kernel_rfl) (hS56.cell (i := 2) rfl rfl)) ?_
                refine l_on rfl rfl (decide_eq_true (by rw [hE])) ?_
                refine l_q rfl rfl (q_gtr rfl rfl) ?_
                refine l_on rfl rfl (decide_eq_true (by rw [hE])) ?_
                refine l_q rfl rfl (q_moveB rfl) ?_
                refine g_splitL (t := 149) rfl (fun hg61 => ?_) (fun hg61 => ?_)
                ·
                  have hg61b := hg61
                  try simp only [decide_eq_true_eq, decide_eq_false_iff_not, Bool.not_eq_true', Bool.not_eq_false', Bool.and_eq_true, Bool.or_eq_true, Int.not_lt, Int.not_le, ne_eq, Decidable.not_not] at hg61
                  refine l_off rfl rfl rfl hg61b ?_
                  refine l_off rfl rfl rfl hg61b ?_
                  refine l_on rfl rfl (decide_eq_true (by rw [hE])) ?_
                  refine l_q rfl rfl (q_pickT rfl hg61b rfl) ?_
                  refine l_on rfl rfl (decide_eq_true (by rw [hE])) ?_
                  refine l_q rfl rfl (q_moveB rfl) ?_
                  refine l_off rfl rfl rfl rfl ?_
                  refine l_off rfl rfl rfl rfl ?_
                  refine l_off rfl rfl rfl rfl ?_
                  refine l_on rfl rfl (decide_eq_true (by rw [hE])) ?_
                  refine l_q rfl rfl (q_pickT rfl rfl rfl) ?_
                  refine l_q rfl rfl (q_pickT rfl (decide_eq_true (by rw [hE])) rfl) ?_
                  refine l_q rfl rfl (q_assignB rfl) ?_
                  refine l_nil ?_
                  refine hK55 _ _ ?_
                  refine wp_ret ?_
                  refine c_ret1 rfl rfl ?_
                  exact ⟨_, rfl, rfl, hS56.drop⟩
                ·
                  have hg61b := hg61
                  try simp only [decide_eq_true_eq, decide_eq_false_iff_not, Bool.not_eq_true', Bool.not_eq_false', Bool.and_eq_true, Bool.or_eq_true, Int.not_lt, Int.not_le, ne_eq, Decidable.not_not] at hg61
                  refine l_on rfl rfl hg61b ?_
                  refine l_q rfl rfl (q_moveB rfl) ?_
                  refine l_on rfl rfl hg61b ?_
                  refine l_q rfl rfl (q_not rfl) ?_
                  refine l_on rfl rfl (decide_eq_true (by rw [hE])) ?_
                  refine l_q rfl rfl (q_pickF rfl hg61b rfl) ?_
                  refine l_on rfl rfl (decide_eq_true (by rw [hE])) ?_
                  refine l_q rfl rfl (q_moveB rfl) ?_
                  refine g_splitL (t := 153) rfl (fun hg62 => ?_) (fun hg62 => ?_)
                  ·
                    have hg62b := hg62
                    try simp only [decide_eq_true_eq, decide_eq_false_iff_not, Bool.not_eq_true', Bool.not_eq_false', Bool.and_eq_true, Bool.or_eq_true, Int.not_lt, Int.not_le, ne_eq, Decidable.not_not] at hg62
                    refine l_off rfl rfl rfl hg62b ?_
                    refine l_off rfl rfl rfl hg62b ?_
                    refine l_off rfl rfl rfl hg62b ?_
                    refine l_on rfl rfl (decide_eq_true (by rw [hE])) ?_
                    refine l_q rfl rfl (q_pickT rfl hg62b rfl) ?_
                    refine l_q rfl rfl (q_pickT rfl (decide_eq_true (by rw [hE])) rfl) ?_
                    refine l_q rfl rfl (q_assignB rfl) ?_
                    refine l_nil ?_
                    refine hK55 _ _ ?_
                    refine wp_ret ?_
                    refine c_ret1 rfl rfl ?_
                    exact ⟨_, rfl, rfl, hS56.drop⟩
                  ·
                    have hg62b := hg62
                    try simp only [decide_eq_true_eq, decide_eq_false_iff_not, Bool.not_eq_true', Bool.not_eq_false', Bool.and_eq_true, Bool.or_eq_true, Int.not_lt, Int.not_le, ne_eq, Decidable.not_not] at hg62
                    refine l_on rfl rfl hg62b ?_
                    refine l_q rfl rfl (q_moveI rfl) ?_
                    refine l_on rfl rfl hg62b ?_
                    refine l_q rfl rfl (q_moveI rfl) ?_
                    refine l_on rfl rfl hg62b ?_
                    refine l_q rfl rfl (q_leq rfl rfl) ?_
                    refine l_on rfl rfl (decide_eq_true (by rw [hE])) ?_
                    refine l_q rfl rfl (q_pickF rfl hg62b rfl) ?_
                    refine l_q rfl rfl (q_pickT rfl (decide_eq_true (by rw [hE])) rfl) ?_
                    refine l_q rfl rfl (q_assignB rfl) ?_
                    refine l_nil ?_
                    refine hK55 _ _ ?_
                    refine wp_ret ?_
                    refine c_ret1 rfl rfl ?_
                    exact ⟨_, rfl, congrArg Value.bool (decide_eq_true (by have := partN_mono (t := t) hx900 hx901 (by omega) (by assumption); omega)), hS56.drop⟩
            ·
              refine l_e rfl (fun K hK => ?_)
              refine e_call (by kernel_rfl) (crow_no t htn htc htb t.cs.length t.bd.length (by first | omega | (simp only [List.length_append, List.length_map, List.length_cons, List.length_nil, List.length_take, List.length_drop, List.length_set] <;> omega)) (by first | omega | (simp only [List.length_append, List.length_map, List.length_cons, List.length_nil, List.length_take, List.length_drop, List.length_set] <;> omega)) (by first | omega | (simp only [List.length_append, List.length_map, List.length_cons, List.length_nil, List.length_take, List.length_drop, List.length_set] <;> omega)) (by first | omega | (simp only [List.length_append, List.length_map, List.length_cons, List.length_nil, List.length_take, List.length_drop, List.length_set] <;> omega)) hRt M hRb hM M.length (by first | omega | (simp only [List.length_append, List.length_map, List.length_cons, List.length_nil, List.length_take, List.length_drop, List.length_set] <;> omega)) (by first | omega | (simp only [List.length_append, List.length_map, List.length_cons, List.length_nil, List.length_take, List.length_drop, List.length_set] <;> omega)) (by first | omega | assumption) _ _ (hGm.mono hS28.base) _ _ _ _ (hCG.mono hS28.base) (hBG.mono hS28.base)) rfl (after_N hS28 (fun v63 G63 w63 hv63 hS63 => ?_))
              clear hS28
              obtain ⟨c63, p63, b63, hpa63, rfl, rfl⟩ := hv63
              have hS64 : St _ _ [.blk b63 (.cells #[.int .i64 c63, .int .i64 p63, _] 87), .ow 32 3 ad27 t.key.toNat cp27 (List.flatMap vl (L.take t.key.toNat)), .blk b2 (.cells #[.string (bs t.nm), .slice ca t.cs.length cca, .int .i64 t.key, .int .i64 t.pt, .slice ba t.bd.length cba] 29)] _ := hS63; clear hS63
              refine hK _ _ ?_; clear hK K
              refine l_q rfl rfl (q_move rfl) ?_
              refine l_q rfl rfl (q_extract rfl rfl) ?_
              refine l_q rfl rfl (q_extract rfl rfl) ?_
              refine l_q rfl rfl (q_assignS rfl) ?_
              refine l_q rfl rfl (q_assign rfl) ?_
              refine l_nil ?_
              refine hK29 _ _ ?_
              refine wp_seq_k (fun K65 hK65 => ?_)
              refine wp_seq_k (fun K66 hK66 => ?_)
              refine wp_region_lit ?_
              refine l_q rfl rfl (q_move rfl) ?_
              refine l_q rfl rfl (q_ine1 rfl (by kernel_rfl)) ?_
              refine l_q rfl rfl (q_moveB rfl) ?_
              refine l_on rfl rfl rfl ?_
              refine l_q rfl rfl (q_move rfl) ?_
              refine l_on rfl rfl rfl ?_
              refine l_q rfl rfl (q_ine0 rfl (by kernel_rfl)) ?_
              refine l_q rfl rfl (q_pickF rfl rfl rfl) ?_
              refine l_nil ?_
              refine hK66 _ _ ?_
              refine c_condT rfl rfl ?_
              refine wp_seq_k (fun K68 hK68 => ?_)
              refine wp_region_lit ?_
              refine l_e rfl (fun K hK => ?_)
              refine e_call (by kernel_rfl) (alive18_ok _) rfl (after_R hS64 (fun v69 w69 hv69 hS69 => ?_))
              clear hS64
              obtain rfl := hv69
              refine hK _ _ ?_; clear hK K
              refine l_q rfl rfl (q_moveB rfl) ?_
              refine l_on rfl rfl rfl ?_
              refine l_q rfl rfl (q_move rfl) ?_
              refine l_on rfl rfl rfl ?_
              refine l_q rfl rfl (q_ieq1 rfl (by kernel_rfl)) ?_
              refine l_on rfl rfl rfl ?_
              refine l_q rfl rfl (q_moveB rfl) ?_
              refine l_off rfl rfl rfl rfl ?_
              refine l_off rfl rfl rfl rfl ?_
              refine l_off rfl rfl rfl rfl ?_
              refine l_on rfl rfl rfl ?_
              refine l_q rfl rfl (q_pickT rfl rfl rfl) ?_
              refine l_q rfl rfl (q_pickT rfl rfl rfl) ?_
              refine l_q rfl rfl (q_moveB rfl) ?_
              refine l_on rfl rfl rfl ?_
              refine l_q rfl rfl (q_move rfl) ?_
              refine l_on rfl rfl rfl ?_
              refine l_q rfl rfl (q_ieq0 rfl (by kernel_rfl)) ?_
              refine l_on rfl rfl rfl ?_
              refine l_q rfl rfl (q_moveB rfl) ?_
              refine l_on rfl rfl rfl ?_
              refine l_q rfl rfl (q_moveS rfl) ?_
              refine l_on rfl rfl rfl ?_
              refine l_q rfl rfl (q_lenSl (e := 32) rfl (by kernel_rfl)) ?_
              refine l_on rfl rfl rfl ?_
              refine l_q rfl rfl (q_eql rfl rfl) ?_
              refine l_on rfl rfl rfl ?_
              refine l_q rfl rfl (q_pickF rfl rfl rfl) ?_
              refine l_q rfl rfl (q_pickT rfl rfl rfl) ?_
              refine l_q rfl rfl (q_assignB rfl) ?_
              refine l_nil ?_
              refine hK68 _ _ ?_
              refine wp_ret ?_
              refine c_ret1 rfl rfl ?_
              exact ⟨_, rfl, rfl, hS69.drop⟩
          ·
            refine l_e rfl (fun K hK => ?_)
            refine e_call (by kernel_rfl) (crow_no t htn htc htb t.cs.length t.bd.length (by first | omega | (simp only [List.length_append, List.length_map, List.length_cons, List.length_nil, List.length_take, List.length_drop, List.length_set] <;> omega)) (by first | omega | (simp only [List.length_append, List.length_map, List.length_cons, List.length_nil, List.length_take, List.length_drop, List.length_set] <;> omega)) (by first | omega | (simp only [List.length_append, List.length_map, List.length_cons, List.length_nil, List.length_take, List.length_drop, List.length_set] <;> omega)) (by first | omega | (simp only [List.length_append, List.length_map, List.length_cons, List.length_nil, List.length_take, List.length_drop, List.length_set] <;> omega)) hRt L hRa hL L.length (by first | omega | (simp only [List.length_append, List.length_map, List.length_cons, List.length_nil, List.length_take, List.length_drop, List.length_set] <;> omega)) (by first | omega | (simp only [List.length_append, List.length_map, List.length_cons, List.length_nil, List.length_take, List.length_drop, List.length_set] <;> omega)) (by first | omega | assumption) _ _ (hG.mono hS24.base) _ _ _ _ (hCG.mono hS24.base) (hBG.mono hS24.base)) rfl (after_N hS24 (fun v70 G70 w70 hv70 hS70 => ?_))
            clear hS24
            obtain ⟨c70, p70, b70, hpa70, rfl, rfl⟩ := hv70
            have hS71 : St _ _ [.blk b70 (.cells #[.int .i64 c70, .int .i64 p70, _] 87), .blk b2 (.cells #[.string (bs t.nm), .slice ca t.cs.length cca, .int .i64 t.key, .int .i64 t.pt, .slice ba t.bd.length cba] 29)] _ := hS70; clear hS70
            refine hK _ _ ?_; clear hK K
            refine l_q rfl rfl (q_move rfl) ?_
            refine l_q rfl rfl (q_extract rfl rfl) ?_
            refine l_q rfl rfl (q_extract rfl rfl) ?_
            refine l_q rfl rfl (q_assignS rfl) ?_
            refine l_q rfl rfl (q_assign rfl) ?_
            refine l_nil ?_
            refine hK26 _ _ ?_
            refine wp_seq_k (fun K72 hK72 => ?_)
            refine wp_region_lit ?_
            refine l_q rfl rfl (q_loadA (m := 5) rfl (by kernel_rfl) (by kernel_rfl) (hS71.blk (i := 1) rfl) rfl rfl) ?_
            refine l_q rfl rfl (q_moveS rfl) ?_
            by_cases hRb : RwP t M
            ·
              refine l_e rfl (fun K hK => ?_)
              refine e_call (by kernel_rfl) (crow_yes t htn htc htb t.cs.length t.bd.length (by first | omega | (simp only [List.length_append, List.length_map, List.length_cons, List.length_nil, List.length_take, List.length_drop, List.length_set] <;> omega)) (by first | omega | (simp only [List.length_append, List.length_map, List.length_cons, List.length_nil, List.length_take, List.length_drop, List.length_set] <;> omega)) (by first | omega | (simp only [List.length_append, List.length_map, List.length_cons, List.length_nil, List.length_take, List.length_drop, List.length_set] <;> omega)) (by first | omega | (simp only [List.length_append, List.length_map, List.length_cons, List.length_nil, List.length_take, List.length_drop, List.length_set] <;> omega)) hRt M hRb hM M.length (by first | omega | (simp only [List.length_append, List.length_map, List.length_cons, List.length_nil, List.length_take, List.length_drop, List.length_set] <;> omega)) (by first | omega | (simp only [List.length_append, List.length_map, List.length_cons, List.length_nil, List.length_take, List.length_drop, List.length_set] <;> omega)) (by first | omega | assumption) _ _ (hGm.mono hS71.base) _ _ _ _ (hCG.mono hS71.base) (hBG.mono hS71.base)) rfl (after_N hS71 (fun v73 G73 w73 hv73 hS73 => ?_))
              clear hS71
              obtain ⟨ad73, cp73, rfl, rfl⟩ := hv73
              have hS74 : St _ _ [.ow 32 3 ad73 t.key.toNat cp73 (List.flatMap vl (M.take t.key.toNat)), .blk b70 (.cells #[.int .i64 c70, .int .i64 p70, _] 87), .blk b2 (.cells #[.string (bs t.nm), .slice ca t.cs.length cca, .int .i64 t.key, .int .i64 t.pt, .slice ba t.bd.length cba] 29)] _ := hS73; clear hS73
              refine hK _ _ ?_; clear hK K
              refine l_q rfl rfl (q_move rfl) ?_
              refine l_q rfl rfl (q_extract rfl rfl) ?_
              refine l_q rfl rfl (q_extract rfl rfl) ?_
              refine l_q rfl rfl (q_assignS rfl) ?_
              refine l_q rfl rfl (q_assign rfl) ?_
              refine l_nil ?_
              refine hK72 _ _ ?_
              refine wp_seq_k (fun K75 hK75 => ?_)
              refine wp_seq_k (fun K76 hK76 => ?_)
              refine wp_region_lit ?_
              refine l_q rfl rfl (q_move rfl) ?_
              refine l_q rfl rfl (q_ine0 rfl (by kernel_rfl)) ?_
              refine l_q rfl rfl (q_moveB rfl) ?_
              refine l_off rfl rfl rfl rfl ?_
              refine l_off rfl rfl rfl rfl ?_
              refine l_q rfl rfl (q_pickT rfl rfl rfl) ?_
              refine l_nil ?_
              refine hK76 _ _ ?_
              refine c_condT rfl rfl ?_
              refine wp_seq_k (fun K78 hK78 => ?_)
              refine wp_region_lit ?_
              refine l_e rfl (fun K hK => ?_)
              refine e_call (by kernel_rfl) (alive18_ok _) rfl (after_R hS74 (fun v79 w79 hv79 hS79 => ?_))
              clear hS74
              obtain rfl := hv79
              refine hK _ _ ?_; clear hK K
              refine l_q rfl rfl (q_moveB rfl) ?_
              refine l_on rfl rfl rfl ?_
              refine l_q rfl rfl (q_move rfl) ?_
              refine l_on rfl rfl rfl ?_
              refine l_q rfl rfl (q_ieq0 rfl (by kernel_rfl)) ?_
              refine l_on rfl rfl rfl ?_
              refine l_q rfl rfl (q_moveB rfl) ?_
              refine l_on rfl rfl rfl ?_
              refine l_q rfl rfl (q_moveS rfl) ?_
              refine l_on rfl rfl rfl ?_
              refine l_q rfl rfl (q_lenSl (e := 32) rfl (by kernel_rfl)) ?_
              refine l_on rfl rfl rfl ?_
              refine l_q rfl rfl (q_eql rfl rfl) ?_
              refine l_on rfl rfl rfl ?_
              refine l_q rfl rfl (q_pickF rfl rfl rfl) ?_
              refine l_q rfl rfl (q_pickT rfl rfl rfl) ?_
              refine l_q rfl rfl (q_moveB rfl) ?_
              refine l_on rfl rfl (by decide) ?_
              refine l_q rfl rfl (q_move rfl) ?_
              refine l_on rfl rfl (by decide) ?_
              refine l_q rfl rfl (q_ieq1 rfl (by kernel_rfl)) ?_
              refine l_on rfl rfl (by decide) ?_
              refine l_q rfl rfl (q_moveB rfl) ?_
              refine l_off rfl rfl rfl rfl ?_
              refine l_off rfl rfl rfl rfl ?_
              refine l_off rfl rfl rfl rfl ?_
              refine l_on rfl rfl (by decide) ?_
              refine l_q rfl rfl (q_pickT rfl rfl rfl) ?_
              refine l_q rfl rfl (q_pickT rfl (by decide) rfl) ?_
              refine l_q rfl rfl (q_assignB rfl) ?_
              refine l_nil ?_
              refine hK78 _ _ ?_
              refine wp_ret ?_
              refine c_ret1 rfl rfl ?_
              exact ⟨_, rfl, rfl, hS79.drop⟩
            ·
              refine l_e rfl (fun K hK => ?_)
              refine e_call (by kernel_rfl) (crow_no t htn htc htb t.cs.length t.bd.length (by first | omega | (simp only [List.length_append, List.length_map, List.length_cons, List.length_nil, List.length_take, List.length_drop, List.length_set] <;> omega)) (by first | omega | (simp only [List.length_append, List.length_map, List.length_cons, List.length_nil, List.length_take, List.length_drop, List.length_set] <;> omega)) (by first | omega | (simp only [List.length_append, List.length_map, List.length_cons, List.length_nil, List.length_take, List.length_drop, List.length_set] <;> omega)) (by first | omega | (simp only [List.length_append, List.length_map, List.length_cons, List.length_nil, List.length_take, List.length_drop, List.length_set] <;> omega)) hRt M hRb hM M.length (by first | omega | (simp only [List.length_append, List.length_map, List.length_cons, List.length_nil, List.length_take, List.length_drop, List.length_set] <;> omega)) (by first | omega | (simp only [List.length_append, List.length_map, List.length_cons, List.length_nil, List.length_take, List.length_drop, List.length_set] <;> omega)) (by first | omega | assumption) _ _ (hGm.mono hS71.base) _ _ _ _ (hCG.mono hS71.base) (hBG.mono hS71.base)) rfl (after_N hS71 (fun v80 G80 w80 hv80 hS80 => ?_))
              clear hS71
              obtain ⟨c80, p80, b80, hpa80, rfl, rfl⟩ := hv80
              have hS81 : St _ _ [.blk b80 (.cells #[.int .i64 c80, .int .i64 p80, _] 87), .blk b70 (.cells #[.int .i64 c70, .int .i64 p70, _] 87), .blk b2 (.cells #[.string (bs t.nm), .slice ca t.cs.length cca, .int .i64 t.key, .int .i64 t.pt, .slice ba t.bd.length cba] 29)] _ := hS80; clear hS80
              refine hK _ _ ?_; clear hK K
              refine l_q rfl rfl (q_move rfl) ?_
              refine l_q rfl rfl (q_extract rfl rfl) ?_
              refine l_q rfl rfl (q_extract rfl rfl) ?_
              refine l_q rfl rfl (q_assignS rfl) ?_
              refine l_q rfl rfl (q_assign rfl) ?_
              refine l_nil ?_
              refine hK72 _ _ ?_
              refine wp_seq_k (fun K82 hK82 => ?_)
              refine wp_seq_k (fun K83 hK83 => ?_)
              refine wp_region_lit ?_
              refine l_q rfl rfl (q_move rfl) ?_
              refine l_q rfl rfl (q_ine0 rfl (by kernel_rfl)) ?_
              refine l_q rfl rfl (q_moveB rfl) ?_
              refine l_off rfl rfl rfl rfl ?_
              refine l_off rfl rfl rfl rfl ?_
              refine l_q rfl rfl (q_pickT rfl rfl rfl) ?_
              refine l_nil ?_
              refine hK83 _ _ ?_
              refine c_condT rfl rfl ?_
              refine wp_seq_k (fun K85 hK85 => ?_)
              refine wp_region_lit ?_
              refine l_e rfl (fun K hK => ?_)
              refine e_call (by kernel_rfl) (alive18_ok _) rfl (after_R hS81 (fun v86 w86 hv86 hS86 => ?_))
              clear hS81
              obtain rfl := hv86
              refine hK _ _ ?_; clear hK K
              refine l_q rfl rfl (q_moveB rfl) ?_
              refine l_on rfl rfl rfl ?_
              refine l_q rfl rfl (q_move rfl) ?_
              refine l_on rfl rfl rfl ?_
              refine l_q rfl rfl (q_ieq0 rfl (by kernel_rfl)) ?_
              refine l_on rfl rfl rfl ?_
              refine l_q rfl rfl (q_moveB rfl) ?_
              refine l_on rfl rfl rfl ?_
              refine l_q rfl rfl (q_moveS rfl) ?_
              refine l_on rfl rfl rfl ?_
              refine l_q rfl rfl (q_lenSl (e := 32) rfl (by kernel_rfl)) ?_
              refine l_on rfl rfl rfl ?_
              refine l_q rfl rfl (q_eql rfl rfl) ?_
              refine l_on rfl rfl rfl ?_
              refine l_q rfl rfl (q_pickF rfl rfl rfl) ?_
              refine l_q rfl rfl (q_pickT rfl rfl rfl) ?_
              refine l_q rfl rfl (q_moveB rfl) ?_
              refine l_on rfl rfl (by decide) ?_
              refine l_q rfl rfl (q_move rfl) ?_
              refine l_on rfl rfl (by decide) ?_
              refine l_q rfl rfl (q_ieq0 rfl (by kernel_rfl)) ?_
              refine l_on rfl rfl (by decide) ?_
              refine l_q rfl rfl (q_moveB rfl) ?_
              refine l_on rfl rfl rfl ?_
              refine l_q rfl rfl (q_moveS rfl) ?_
              refine l_on rfl rfl rfl ?_
              refine l_q rfl rfl (q_lenSl (e := 32) rfl (by kernel_rfl)) ?_
              refine l_on rfl rfl rfl ?_
              refine l_q rfl rfl (q_eql rfl rfl) ?_
              refine l_on rfl rfl (by decide) ?_
              refine l_q rfl rfl (q_pickF rfl rfl rfl) ?_
              refine l_q rfl rfl (q_pickT rfl (by decide) rfl) ?_
              refine l_q rfl rfl (q_assignB rfl) ?_
              refine l_nil ?_
              refine hK85 _ _ ?_
              refine wp_ret ?_
              refine c_ret1 rfl rfl ?_
              exact ⟨_, rfl, rfl, hS86.drop⟩
        ·
          have hfw : FewP t := pB_iff.1 (by assumption)
          obtain ⟨hfw1, hfw2, hfw3, _⟩ := hfw
          have hsL := (pB_iff.1 (show pB (ShP L) = true by assumption)).1
          have hsM := (pB_iff.1 (show pB (ShP M) = true by assumption)).1
          refine l_on rfl rfl hg19b ?_
          refine l_e rfl (fun K hK => ?_)
          refine e_call (by kernel_rfl) (cright_no t htn htc htb t.cs.length t.bd.length (by first | omega | (simp only [List.length_append, List.length_map, List.length_cons, List.length_nil, List.length_take, List.length_drop, List.length_set] <;> omega)) (by first | omega | (simp only [List.length_append, List.length_map, List.length_cons, List.length_nil, List.length_take, List.length_drop, List.length_set] <;> omega)) (by first | omega | (simp only [List.length_append, List.length_map, List.length_cons, List.length_nil, List.length_take, List.length_drop, List.length_set] <;> omega)) (by first | omega | (simp only [List.length_append, List.length_map, List.length_cons, List.length_nil, List.length_take, List.length_drop, List.length_set] <;> omega)) hRt _ _ _ _ _ (hCG.mono hS8.base) (hBG.mono hS8.base) (by first | omega | assumption)) rfl (after_N hS8 (fun v87 G87 w87 hv87 hS87 => ?_))
          clear hS8
          obtain ⟨p87, b87, hpa87, rfl, rfl⟩ := hv87
          have hS88 : St _ _ [.blk b87 (.cells #[.int .i64 (182 : Int), .int .i64 p87, _] 87), .blk b2 (.cells #[.string (bs t.nm), .slice ca t.cs.length cca, .int .i64 t.key, .int .i64 t.pt, .slice ba t.bd.length cba] 29)] _ := hS87; clear hS87
          refine hK _ _ ?_; clear hK K
          refine l_on rfl rfl hg19b ?_
          refine l_q rfl rfl (q_ine0 rfl (by kernel_rfl)) ?_
          refine l_q rfl rfl (q_pickF rfl hg19b rfl) ?_
          refine l_nil ?_
          refine hK10 _ _ ?_
          refine c_condT rfl rfl ?_
          refine wp_seq_k (fun K90 hK90 => ?_)
          refine wp_region_lit ?_
          refine l_e rfl (fun K hK => ?_)
          refine e_call (by kernel_rfl) (alive18_ok _) rfl (after_R hS88 (fun v91 w91 hv91 hS91 => ?_))
          clear hS88
          obtain rfl := hv91
          refine hK _ _ ?_; clear hK K
          refine l_q rfl rfl (q_assignB rfl) ?_
          refine l_nil ?_
          refine hK90 _ _ ?_
          refine wp_ret ?_
          refine c_ret1 rfl rfl ?_
          exact ⟨_, rfl, rfl, hS91.drop⟩

end Go.Proofs.YtmemgpcgjephmaaDoor
