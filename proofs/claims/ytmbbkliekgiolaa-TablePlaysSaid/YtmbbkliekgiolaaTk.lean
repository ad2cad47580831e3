/- law08: TableOrder. -/
import Derived.Test.YtmbbkliekgiolaaTj
set_option linter.unusedVariables false
set_option linter.unusedSimpArgs false
namespace Go.Proofs.Ytmbbkliekgiolaa
open Go.RowKit
attribute [local irreducible] Oper.wp Sem.run Code.wp wpList wpAnyO callFunc execOp Calls
attribute [local irreducible] cmpL putA getA dropA lastB ent inB rangeB pF fits

set_option maxHeartbeats 1000000 in
set_option maxRecDepth 100000 in
theorem tableOrder_ok (S : List Ac8) (sa : Option Addr) (sc : Nat) (fr mid : List Nat) (hfB : Bytes fr) (hmB : Bytes mid) (fa ma : Option Addr) (fc mc : Nat) (w : World) (hSG : SlG (hw w) sa (List.flatMap ac8 S)) (hSo : ∀ a ∈ S, Ac8Ok (hw w) a) (hfG : SlG (hw w) fa (bv fr)) (hmG : SlG (hw w) ma (bv mid)) : Calls Try.prog 3 #[.slice sa S.length sc, .slice fa fr.length fc, .slice ma mid.length mc] w (PostR w fun v => v = .bool true) := by
  have hS := St.start w
  refine c_enter Try.func3 rfl rfl rfl ?_
  refine wp_seq_k (fun K1 hK1 => ?_)
  refine wp_region_lit ?_
  refine l_q rfl rfl (q_assignB rfl) ?_
  refine l_nil ?_
  refine hK1 _ _ ?_
  refine wp_seq_k (fun K2 hK2 => ?_)
  refine wp_seq_k (fun K3 hK3 => ?_)
  refine wp_region_lit ?_
  refine l_q rfl rfl (q_moveS rfl) ?_
  refine l_q rfl rfl (q_lenSl (e := 5) rfl (by kernel_rfl)) ?_
  refine l_q rfl rfl (q_gtr rfl rfl) ?_
  refine l_q rfl rfl (q_moveB rfl) ?_
  refine g_splitL (t := 20) rfl (fun hg4 => ?_) (fun hg4 => ?_)
  ·
    have hg4b := hg4
    try simp only [decide_eq_true_eq, decide_eq_false_iff_not, Bool.not_eq_true', Bool.not_eq_false', Bool.and_eq_true, Bool.or_eq_true, Int.not_lt, Int.not_le, ne_eq, Decidable.not_not] at hg4
    refine l_off rfl rfl rfl hg4b ?_
    refine l_off rfl rfl rfl hg4b ?_
    refine l_off rfl rfl rfl hg4b ?_
    refine l_q rfl rfl (q_pickT rfl hg4b rfl) ?_
    refine l_q rfl rfl (q_moveB rfl) ?_
    refine l_off rfl rfl rfl rfl ?_
    refine l_off rfl rfl rfl rfl ?_
    refine l_off rfl rfl rfl rfl ?_
    refine l_q rfl rfl (q_pickT rfl rfl rfl) ?_
    refine l_q rfl rfl (q_moveB rfl) ?_
    refine l_off rfl rfl rfl rfl ?_
    refine l_off rfl rfl rfl rfl ?_
    refine l_off rfl rfl rfl rfl ?_
    refine l_off rfl rfl rfl rfl ?_
    refine l_off rfl rfl rfl rfl ?_
    refine l_q rfl rfl (q_pickT rfl rfl rfl) ?_
    refine l_nil ?_
    refine hK3 _ _ ?_
    refine c_condT rfl rfl ?_
    refine wp_seq_k (fun K6 hK6 => ?_)
    refine wp_region_lit ?_
    refine l_e rfl (fun K hK => ?_)
    refine e_call (by kernel_rfl) (alive8_ok _) rfl (after_R hS (fun v7 w7 hv7 hS7 => ?_))
    clear hS
    obtain rfl := hv7
    refine hK _ _ ?_; clear hK K
    refine l_q rfl rfl (q_assignB rfl) ?_
    refine l_nil ?_
    refine hK6 _ _ ?_
    refine wp_ret ?_
    refine c_ret1 rfl rfl ?_
    exact ⟨_, rfl, rfl, hS7.drop⟩
  ·
    have hg4b := hg4
    try simp only [decide_eq_true_eq, decide_eq_false_iff_not, Bool.not_eq_true', Bool.not_eq_false', Bool.and_eq_true, Bool.or_eq_true, Int.not_lt, Int.not_le, ne_eq, Decidable.not_not] at hg4
    refine l_on rfl rfl hg4b ?_
    refine l_q rfl rfl (q_moveS rfl) ?_
    refine l_on rfl rfl hg4b ?_
    refine l_q rfl rfl (q_lenSl (e := 5) rfl (by kernel_rfl)) ?_
    refine l_on rfl rfl hg4b ?_
    refine l_q rfl rfl (q_gtr rfl rfl) ?_
    refine l_q rfl rfl (q_pickF rfl hg4b rfl) ?_
    refine l_q rfl rfl (q_moveB rfl) ?_
    refine g_splitL (t := 25) rfl (fun hg8 => ?_) (fun hg8 => ?_)
    ·
      have hg8b := hg8
      try simp only [decide_eq_true_eq, decide_eq_false_iff_not, Bool.not_eq_true', Bool.not_eq_false', Bool.and_eq_true, Bool.or_eq_true, Int.not_lt, Int.not_le, ne_eq, Decidable.not_not] at hg8
      refine l_off rfl rfl rfl hg8b ?_
      refine l_off rfl rfl rfl hg8b ?_
      refine l_off rfl rfl rfl hg8b ?_
      refine l_q rfl rfl (q_pickT rfl hg8b rfl) ?_
      refine l_q rfl rfl (q_moveB rfl) ?_
      refine l_off rfl rfl rfl rfl ?_
      refine l_off rfl rfl rfl rfl ?_
      refine l_off rfl rfl rfl rfl ?_
      refine l_off rfl rfl rfl rfl ?_
      refine l_off rfl rfl rfl rfl ?_
      refine l_q rfl rfl (q_pickT rfl rfl rfl) ?_
      refine l_nil ?_
      refine hK3 _ _ ?_
      refine c_condT rfl rfl ?_
      refine wp_seq_k (fun K10 hK10 => ?_)
      refine wp_region_lit ?_
      refine l_e rfl (fun K hK => ?_)
      refine e_call (by kernel_rfl) (alive8_ok _) rfl (after_R hS (fun v11 w11 hv11 hS11 => ?_))
      clear hS
      obtain rfl := hv11
      refine hK _ _ ?_; clear hK K
      refine l_q rfl rfl (q_assignB rfl) ?_
      refine l_nil ?_
      refine hK10 _ _ ?_
      refine wp_ret ?_
      refine c_ret1 rfl rfl ?_
      exact ⟨_, rfl, rfl, hS11.drop⟩
    ·
      have hg8b := hg8
      try simp only [decide_eq_true_eq, decide_eq_false_iff_not, Bool.not_eq_true', Bool.not_eq_false', Bool.and_eq_true, Bool.or_eq_true, Int.not_lt, Int.not_le, ne_eq, Decidable.not_not] at hg8
      refine l_on rfl rfl hg8b ?_
      refine l_q rfl rfl (q_moveS rfl) ?_
      refine l_on rfl rfl hg8b ?_
      refine l_q rfl rfl (q_lenSl (e := 5) rfl (by kernel_rfl)) ?_
      refine l_on rfl rfl hg8b ?_
      refine l_q rfl rfl (q_eql rfl rfl) ?_
      refine l_q rfl rfl (q_pickF rfl hg8b rfl) ?_
      refine l_q rfl rfl (q_moveB rfl) ?_
      refine g_splitL (t := 30) rfl (fun hg12 => ?_) (fun hg12 => ?_)
      ·
        have hg12b := hg12
        try simp only [decide_eq_true_eq, decide_eq_false_iff_not, Bool.not_eq_true', Bool.not_eq_false', Bool.and_eq_true, Bool.or_eq_true, Int.not_lt, Int.not_le, ne_eq, Decidable.not_not] at hg12
        refine l_off rfl rfl rfl hg12b ?_
        refine l_off rfl rfl rfl hg12b ?_
        refine l_off rfl rfl rfl hg12b ?_
        refine l_off rfl rfl rfl hg12b ?_
        refine l_off rfl rfl rfl hg12b ?_
        refine l_q rfl rfl (q_pickT rfl hg12b rfl) ?_
        refine l_nil ?_
        refine hK3 _ _ ?_
        refine c_condT rfl rfl ?_
        refine wp_seq_k (fun K14 hK14 => ?_)
        refine wp_region_lit ?_
        refine l_e rfl (fun K hK => ?_)
        refine e_call (by kernel_rfl) (alive8_ok _) rfl (after_R hS (fun v15 w15 hv15 hS15 => ?_))
        clear hS
        obtain rfl := hv15
        refine hK _ _ ?_; clear hK K
        refine l_q rfl rfl (q_assignB rfl) ?_
        refine l_nil ?_
        refine hK14 _ _ ?_
        refine wp_ret ?_
        refine c_ret1 rfl rfl ?_
        exact ⟨_, rfl, rfl, hS15.drop⟩
      ·
        have hg12b := hg12
        try simp only [decide_eq_true_eq, decide_eq_false_iff_not, Bool.not_eq_true', Bool.not_eq_false', Bool.and_eq_true, Bool.or_eq_true, Int.not_lt, Int.not_le, ne_eq, Decidable.not_not] at hg12
        have hml : ¬ ((mid.length : Int) = 0) := by omega
        refine l_on rfl rfl hg12b ?_
        refine l_q rfl rfl (q_moveS rfl) ?_
        refine l_on rfl rfl hg12b ?_
        refine l_q rfl rfl (q_convBS (l := fr) rfl (hfG.mono hS.base) (by first | omega | (simp only [List.length_append, List.length_map, List.length_cons, List.length_nil, List.length_take, List.length_drop, List.length_set] <;> omega)) (by kernel_rfl) (by kernel_rfl)) ?_
        refine l_on rfl rfl hg12b ?_
        refine l_q rfl rfl (q_moveS rfl) ?_
        refine l_on rfl rfl hg12b ?_
        refine l_q rfl rfl (q_convBS (l := mid) rfl (hmG.mono hS.base) (by first | omega | (simp only [List.length_append, List.length_map, List.length_cons, List.length_nil, List.length_take, List.length_drop, List.length_set] <;> omega)) (by kernel_rfl) (by kernel_rfl)) ?_
        refine l_on rfl rfl hg12b ?_
        refine l_q rfl rfl (q_str_gtr (l := fr) (m := mid) rfl rfl hfB hmB) ?_
        refine l_q rfl rfl (q_pickF rfl hg12b rfl) ?_
        refine l_nil ?_
        refine hK3 _ _ ?_
        refine c_cond rfl (fun hc16 => ?_) (fun hc16 => ?_)
        ·
          have hc16b := hc16
          try simp only [decide_eq_true_eq, decide_eq_false_iff_not, Bool.not_eq_true', Bool.not_eq_false', Bool.and_eq_true, Bool.or_eq_true, Int.not_lt, Int.not_le, ne_eq, Decidable.not_not] at hc16
          refine wp_seq_k (fun K17 hK17 => ?_)
          refine wp_region_lit ?_
          refine l_e rfl (fun K hK => ?_)
          refine e_call (by kernel_rfl) (alive8_ok _) rfl (after_R hS (fun v18 w18 hv18 hS18 => ?_))
          clear hS
          obtain rfl := hv18
          refine hK _ _ ?_; clear hK K
          refine l_q rfl rfl (q_assignB rfl) ?_
          refine l_nil ?_
          refine hK17 _ _ ?_
          refine wp_ret ?_
          refine c_ret1 rfl rfl ?_
          exact ⟨_, rfl, rfl, hS18.drop⟩
        ·
          have hc16b := hc16
          try simp only [decide_eq_true_eq, decide_eq_false_iff_not, Bool.not_eq_true', Bool.not_eq_false', Bool.and_eq_true, Bool.or_eq_true, Int.not_lt, Int.not_le, ne_eq, Decidable.not_not] at hc16
          have hle : bl mid fr = false := by
            have h2 : bl fr mid = true ∨ fr = mid := by simpa using hc16
            rcases h2 with h2 | h2
            · exact bl_asym h2
            · subst h2; exact bl_irr _
          have hmid : mid ≠ [] := by rintro rfl; simp at hml
          refine wp_skip ?_
          refine hK2 _ _ ?_
          refine wp_seq_k (fun K19 hK19 => ?_)
          refine wp_region_lit ?_
          refine l_q rfl rfl (q_moveS rfl) ?_
          refine l_e rfl (fun K hK => ?_)
          refine e_call (by kernel_rfl) (built_ok S _ _ _ (hSG.mono hS.base) (fun a ha => (hSo a ha).mono hS.base)) rfl (after_N hS (fun v20 G20 w20 hv20 hS20 => ?_))
          clear hS
          obtain ⟨k20, ad20, cp20, ps20, g20, rfl, rfl, hT20, hfl20⟩ := hv20
          have hS21 : St _ _ [tb k20 ad20 cp20 ps20, .fz g20] _ := hS20; clear hS20
          have hsrt := hT20.pok.srt
          have hal : (ab ps20).length ≤ 150 := by rw [ab_len]; omega
          refine hK _ _ ?_; clear hK K
          refine l_q rfl rfl (q_assignP rfl) ?_
          refine l_nil ?_
          refine hK19 _ _ ?_
          refine wp_seq_k (fun K22 hK22 => ?_)
          refine wp_region_lit ?_
          refine l_q rfl rfl (q_moveP rfl) ?_
          refine l_q rfl rfl (q_moveS rfl) ?_
          refine l_q rfl rfl (q_moveS rfl) ?_
          refine l_e rfl (fun K hK => ?_)
          refine e_call (by kernel_rfl) (range_ok k20 _ _ ps20 fr mid hfB hmB (by first | omega | (simp only [List.length_append, List.length_map, List.length_cons, List.length_nil, List.length_take, List.length_drop, List.length_set] <;> omega)) (by first | omega | (simp only [List.length_append, List.length_map, List.length_cons, List.length_nil, List.length_take, List.length_drop, List.length_set] <;> omega)) fr.length mid.length (by first | omega | (simp only [List.length_append, List.length_map, List.length_cons, List.length_nil, List.length_take, List.length_drop, List.length_set] <;> omega)) (by first | omega | (simp only [List.length_append, List.length_map, List.length_cons, List.length_nil, List.length_take, List.length_drop, List.length_set] <;> omega)) (150 : Int) (by first | decide | omega) (by first | decide | omega) _ _ _ _ (by first | omega | (simp only [List.length_append, List.length_map, List.length_cons, List.length_nil, List.length_take, List.length_drop, List.length_set] <;> omega)) _ (hS21.tr (i := 0) (j := 1) rfl rfl hT20) (hfG.mono hS21.base) (hmG.mono hS21.base)) rfl (after_N hS21 (fun v23 G23 w23 hv23 hS23 => ?_))
          clear hS21
          obtain ⟨ra23, rc23, es23, rfl, rfl, heq23⟩ := hv23
          have hS24 : St _ _ [.ow 41 2 ra23 es23.length rc23 (List.flatMap en es23), .pk (epk es23), tb k20 ad20 cp20 ps20, .fz g20] _ := hS23; clear hS23
          have hfit23 := range_fit hT20 heq23
          have hel23 : es23.length ≤ (flat ps20).length := range_len heq23
          obtain ⟨gx23, hxs23, hxe23, hS23x⟩ := hS24.rngFz hfit23; clear hS24
          refine hK _ _ ?_; clear hK K
          have hfl_23 : ((ab ps20).filter (pF fr mid)).length ≤ (ab ps20).length := List.length_filter_le _ _
          refine l_e rfl (fun K hK => ?_)
          have hkb25 : KB ((ab ps20).filter (pF fr mid)) := (heq23.trans (rangeB_full hal)) ▸ KB.eok hxe23
          have htl25 : ((ab ps20).filter (pF fr mid)).length = es23.length := by rw [← (heq23.trans (rangeB_full hal))]; exact List.length_map _
          refine e_call (by kernel_rfl) (told2_ok es23 ((ab ps20).filter (pF fr mid)) (heq23.trans (rangeB_full hal)) es23.length (by first | omega | (simp only [List.length_append, List.length_map, List.length_cons, List.length_nil, List.length_take, List.length_drop, List.length_set] <;> omega)) (by first | omega | (simp only [List.length_append, List.length_map, List.length_cons, List.length_nil, List.length_take, List.length_drop, List.length_set] <;> omega)) _ _ _ (fun a ha => (hxe23 a ha).1.mono (hS23x.fz (i := 0) rfl)) (hxs23.mono (hS23x.fz (i := 0) rfl))) rfl (after_N hS23x (fun v25 G25 w25 hv25 hS25 => ?_))
          clear hS23x
          obtain ⟨oa25, oc25, rfl, rfl⟩ := hv25
          have hS26 : St _ _ [.ow 36 2 oa25 (((ab ps20).filter (pF fr mid)).length) oc25 (List.flatMap re ((ab ps20).filter (pF fr mid))), .fz gx23, tb k20 ad20 cp20 ps20, .fz g20] _ := hS25; clear hS25
          refine hK _ _ ?_; clear hK K
          refine l_q rfl rfl (q_assignS rfl) ?_
          refine l_nil ?_
          refine hK22 _ _ ?_
          refine wp_seq_k (fun K27 hK27 => ?_)
          refine wp_region_lit ?_
          refine l_q rfl rfl (q_moveP rfl) ?_
          refine l_q rfl rfl (q_moveS rfl) ?_
          refine l_e rfl (fun K hK => ?_)
          refine e_call (by kernel_rfl) (range_ok k20 _ _ ps20 mid [] hmB Bytes.nil (by first | omega | (simp only [List.length_append, List.length_map, List.length_cons, List.length_nil, List.length_take, List.length_drop, List.length_set] <;> omega)) (by first | omega | (simp only [List.length_append, List.length_map, List.length_cons, List.length_nil, List.length_take, List.length_drop, List.length_set] <;> omega)) mid.length 0 (by first | omega | (simp only [List.length_append, List.length_map, List.length_cons, List.length_nil, List.length_take, List.length_drop, List.length_set] <;> omega)) (by first | omega | (simp only [List.length_append, List.length_map, List.length_cons, List.length_nil, List.length_take, List.length_drop, List.length_set] <;> omega)) (150 : Int) (by first | decide | omega) (by first | decide | omega) _ _ _ _ (by first | omega | (simp only [List.length_append, List.length_map, List.length_cons, List.length_nil, List.length_take, List.length_drop, List.length_set] <;> omega)) _ (hS26.tr (i := 2) (j := 3) rfl rfl hT20) (hmG.mono hS26.base) SlG.nil) rfl (after_N hS26 (fun v28 G28 w28 hv28 hS28 => ?_))
          clear hS26
          obtain ⟨ra28, rc28, es28, rfl, rfl, heq28⟩ := hv28
          have hS29 : St _ _ [.ow 41 2 ra28 es28.length rc28 (List.flatMap en es28), .pk (epk es28), .ow 36 2 oa25 (((ab ps20).filter (pF fr mid)).length) oc25 (List.flatMap re ((ab ps20).filter (pF fr mid))), .fz gx23, tb k20 ad20 cp20 ps20, .fz g20] _ := hS28; clear hS28
          have hfit28 := range_fit hT20 heq28
          have hel28 : es28.length ≤ (flat ps20).length := range_len heq28
          obtain ⟨gx28, hxs28, hxe28, hS28x⟩ := hS29.rngFz hfit28; clear hS29
          refine hK _ _ ?_; clear hK K
          have hfl_28 : ((ab ps20).filter (pF mid [])).length ≤ (ab ps20).length := List.length_filter_le _ _
          refine l_e rfl (fun K hK => ?_)
          have hkb30 : KB ((ab ps20).filter (pF mid [])) := (heq28.trans (rangeB_full hal)) ▸ KB.eok hxe28
          have htl30 : ((ab ps20).filter (pF mid [])).length = es28.length := by rw [← (heq28.trans (rangeB_full hal))]; exact List.length_map _
          refine e_call (by kernel_rfl) (told2_ok es28 ((ab ps20).filter (pF mid [])) (heq28.trans (rangeB_full hal)) es28.length (by first | omega | (simp only [List.length_append, List.length_map, List.length_cons, List.length_nil, List.length_take, List.length_drop, List.length_set] <;> omega)) (by first | omega | (simp only [List.length_append, List.length_map, List.length_cons, List.length_nil, List.length_take, List.length_drop, List.length_set] <;> omega)) _ _ _ (fun a ha => (hxe28 a ha).1.mono (hS28x.fz (i := 0) rfl)) (hxs28.mono (hS28x.fz (i := 0) rfl))) rfl (after_N hS28x (fun v30 G30 w30 hv30 hS30 => ?_))
          clear hS28x
          obtain ⟨oa30, oc30, rfl, rfl⟩ := hv30
          have hS31 : St _ _ [.ow 36 2 oa30 (((ab ps20).filter (pF mid [])).length) oc30 (List.flatMap re ((ab ps20).filter (pF mid []))), .fz gx28, .ow 36 2 oa25 (((ab ps20).filter (pF fr mid)).length) oc25 (List.flatMap re ((ab ps20).filter (pF fr mid))), .fz gx23, tb k20 ad20 cp20 ps20, .fz g20] _ := hS30; clear hS30
          refine hK _ _ ?_; clear hK K
          refine l_q rfl rfl (q_assignS rfl) ?_
          refine l_nil ?_
          refine hK27 _ _ ?_
          refine wp_seq_k (fun K32 hK32 => ?_)
          refine wp_region_lit ?_
          refine l_q rfl rfl (q_moveP rfl) ?_
          refine l_q rfl rfl (q_moveS rfl) ?_
          refine l_e rfl (fun K hK => ?_)
          refine e_call (by kernel_rfl) (range_ok k20 _ _ ps20 fr [] hfB Bytes.nil (by first | omega | (simp only [List.length_append, List.length_map, List.length_cons, List.length_nil, List.length_take, List.length_drop, List.length_set] <;> omega)) (by first | omega | (simp only [List.length_append, List.length_map, List.length_cons, List.length_nil, List.length_take, List.length_drop, List.length_set] <;> omega)) fr.length 0 (by first | omega | (simp only [List.length_append, List.length_map, List.length_cons, List.length_nil, List.length_take, List.length_drop, List.length_set] <;> omega)) (by first | omega | (simp only [List.length_append, List.length_map, List.length_cons, List.length_nil, List.length_take, List.length_drop, List.length_set] <;> omega)) (150 : Int) (by first | decide | omega) (by first | decide | omega) _ _ _ _ (by first | omega | (simp only [List.length_append, List.length_map, List.length_cons, List.length_nil, List.length_take, List.length_drop, List.length_set] <;> omega)) _ (hS31.tr (i := 4) (j := 5) rfl rfl hT20) (hfG.mono hS31.base) SlG.nil) rfl (after_N hS31 (fun v33 G33 w33 hv33 hS33 => ?_))
          clear hS31
          obtain ⟨ra33, rc33, es33, rfl, rfl, heq33⟩ := hv33
          have hS34 : St _ _ [.ow 41 2 ra33 es33.length rc33 (List.flatMap en es33), .pk (epk es33), .ow 36 2 oa30 (((ab ps20).filter (pF mid [])).length) oc30 (List.flatMap re ((ab ps20).filter (pF mid []))), .fz gx28, .ow 36 2 oa25 (((ab ps20).filter (pF fr mid)).length) oc25 (List.flatMap re ((ab ps20).filter (pF fr mid))), .fz gx23, tb k20 ad20 cp20 ps20, .fz g20] _ := hS33; clear hS33
          have hfit33 := range_fit hT20 heq33
          have hel33 : es33.length ≤ (flat ps20).length := range_len heq33
          obtain ⟨gx33, hxs33, hxe33, hS33x⟩ := hS34.rngFz hfit33; clear hS34
          refine hK _ _ ?_; clear hK K
          have hfl_33 : ((ab ps20).filter (pF fr [])).length ≤ (ab ps20).length := List.length_filter_le _ _
          refine l_e rfl (fun K hK => ?_)
          have hkb35 : KB ((ab ps20).filter (pF fr [])) := (heq33.trans (rangeB_full hal)) ▸ KB.eok hxe33
          have htl35 : ((ab ps20).filter (pF fr [])).length = es33.length := by rw [← (heq33.trans (rangeB_full hal))]; exact List.length_map _
          refine e_call (by kernel_rfl) (told2_ok es33 ((ab ps20).filter (pF fr [])) (heq33.trans (rangeB_full hal)) es33.length (by first | omega | (simp only [List.length_append, List.length_map, List.length_cons, List.length_nil, List.length_take, List.length_drop, List.length_set] <;> omega)) (by first | omega | (simp only [List.length_append, List.length_map, List.length_cons, List.length_nil, List.length_take, List.length_drop, List.length_set] <;> omega)) _ _ _ (fun a ha => (hxe33 a ha).1.mono (hS33x.fz (i := 0) rfl)) (hxs33.mono (hS33x.fz (i := 0) rfl))) rfl (after_N hS33x (fun v35 G35 w35 hv35 hS35 => ?_))
          clear hS33x
          obtain ⟨oa35, oc35, rfl, rfl⟩ := hv35
          have hS36 : St _ _ [.ow 36 2 oa35 (((ab ps20).filter (pF fr [])).length) oc35 (List.flatMap re ((ab ps20).filter (pF fr []))), .fz gx33, .ow 36 2 oa30 (((ab ps20).filter (pF mid [])).length) oc30 (List.flatMap re ((ab ps20).filter (pF mid []))), .fz gx28, .ow 36 2 oa25 (((ab ps20).filter (pF fr mid)).length) oc25 (List.flatMap re ((ab ps20).filter (pF fr mid))), .fz gx23, tb k20 ad20 cp20 ps20, .fz g20] _ := hS35; clear hS35
          refine hK _ _ ?_; clear hK K
          refine l_q rfl rfl (q_assignS rfl) ?_
          refine l_nil ?_
          refine hK32 _ _ ?_
          refine wp_seq_k (fun K37 hK37 => ?_)
          refine wp_region_lit ?_
          refine l_q rfl rfl (q_moveP rfl) ?_
          refine l_e rfl (fun K hK => ?_)
          refine e_call (by kernel_rfl) (range_ok k20 _ _ ps20 [] [] Bytes.nil Bytes.nil (by first | omega | (simp only [List.length_append, List.length_map, List.length_cons, List.length_nil, List.length_take, List.length_drop, List.length_set] <;> omega)) (by first | omega | (simp only [List.length_append, List.length_map, List.length_cons, List.length_nil, List.length_take, List.length_drop, List.length_set] <;> omega)) 0 0 (by first | omega | (simp only [List.length_append, List.length_map, List.length_cons, List.length_nil, List.length_take, List.length_drop, List.length_set] <;> omega)) (by first | omega | (simp only [List.length_append, List.length_map, List.length_cons, List.length_nil, List.length_take, List.length_drop, List.length_set] <;> omega)) (150 : Int) (by first | decide | omega) (by first | decide | omega) _ _ _ _ (by first | omega | (simp only [List.length_append, List.length_map, List.length_cons, List.length_nil, List.length_take, List.length_drop, List.length_set] <;> omega)) _ (hS36.tr (i := 6) (j := 7) rfl rfl hT20) SlG.nil SlG.nil) rfl (after_N hS36 (fun v38 G38 w38 hv38 hS38 => ?_))
          clear hS36
          obtain ⟨ra38, rc38, es38, rfl, rfl, heq38⟩ := hv38
          have hS39 : St _ _ [.ow 41 2 ra38 es38.length rc38 (List.flatMap en es38), .pk (epk es38), .ow 36 2 oa35 (((ab ps20).filter (pF fr [])).length) oc35 (List.flatMap re ((ab ps20).filter (pF fr []))), .fz gx33, .ow 36 2 oa30 (((ab ps20).filter (pF mid [])).length) oc30 (List.flatMap re ((ab ps20).filter (pF mid []))), .fz gx28, .ow 36 2 oa25 (((ab ps20).filter (pF fr mid)).length) oc25 (List.flatMap re ((ab ps20).filter (pF fr mid))), .fz gx23, tb k20 ad20 cp20 ps20, .fz g20] _ := hS38; clear hS38
          have hfit38 := range_fit hT20 heq38
          have hel38 : es38.length ≤ (flat ps20).length := range_len heq38
          obtain ⟨gx38, hxs38, hxe38, hS38x⟩ := hS39.rngFz hfit38; clear hS39
          refine hK _ _ ?_; clear hK K
          refine l_e rfl (fun K hK => ?_)
          have hkb40 : KB (ab ps20) := (heq38.trans (rangeB_all hal)) ▸ KB.eok hxe38
          have htl40 : (ab ps20).length = es38.length := by rw [← (heq38.trans (rangeB_all hal))]; exact List.length_map _
          refine e_call (by kernel_rfl) (told2_ok es38 (ab ps20) (heq38.trans (rangeB_all hal)) es38.length (by first | omega | (simp only [List.length_append, List.length_map, List.length_cons, List.length_nil, List.length_take, List.length_drop, List.length_set] <;> omega)) (by first | omega | (simp only [List.length_append, List.length_map, List.length_cons, List.length_nil, List.length_take, List.length_drop, List.length_set] <;> omega)) _ _ _ (fun a ha => (hxe38 a ha).1.mono (hS38x.fz (i := 0) rfl)) (hxs38.mono (hS38x.fz (i := 0) rfl))) rfl (after_N hS38x (fun v40 G40 w40 hv40 hS40 => ?_))
          clear hS38x
          obtain ⟨oa40, oc40, rfl, rfl⟩ := hv40
          have hS41 : St _ _ [.ow 36 2 oa40 ((ab ps20).length) oc40 (List.flatMap re (ab ps20)), .fz gx38, .ow 36 2 oa35 (((ab ps20).filter (pF fr [])).length) oc35 (List.flatMap re ((ab ps20).filter (pF fr []))), .fz gx33, .ow 36 2 oa30 (((ab ps20).filter (pF mid [])).length) oc30 (List.flatMap re ((ab ps20).filter (pF mid []))), .fz gx28, .ow 36 2 oa25 (((ab ps20).filter (pF fr mid)).length) oc25 (List.flatMap re ((ab ps20).filter (pF fr mid))), .fz gx23, tb k20 ad20 cp20 ps20, .fz g20] _ := hS40; clear hS40
          refine hK _ _ ?_; clear hK K
          refine l_q rfl rfl (q_assignS rfl) ?_
          refine l_nil ?_
          refine hK37 _ _ ?_
          refine wp_seq_k (fun K42 hK42 => ?_)
          refine wp_region_lit ?_
          refine l_e rfl (fun K hK => ?_)
          refine e_buildSlice0 (e := 36) (m := 2) hS41 (by kernel_rfl) (by kernel_rfl) (fun b43 w43 (hS43 : St _ _ [.blk b43 (.cells #[] 36), .ow 36 2 oa40 ((ab ps20).length) oc40 (List.flatMap re (ab ps20)), .fz gx38, .ow 36 2 oa35 (((ab ps20).filter (pF fr [])).length) oc35 (List.flatMap re ((ab ps20).filter (pF fr []))), .fz gx33, .ow 36 2 oa30 (((ab ps20).filter (pF mid [])).length) oc30 (List.flatMap re ((ab ps20).filter (pF mid []))), .fz gx28, .ow 36 2 oa25 (((ab ps20).filter (pF fr mid)).length) oc25 (List.flatMap re ((ab ps20).filter (pF fr mid))), .fz gx23, tb k20 ad20 cp20 ps20, .fz g20] _) => ?_)
          clear hS41
          have hS43o : St _ _ [.ow 36 2 (some ⟨b43, 0, none⟩) 0 0 (List.flatMap re []), .ow 36 2 oa40 ((ab ps20).length) oc40 (List.flatMap re (ab ps20)), .fz gx38, .ow 36 2 oa35 (((ab ps20).filter (pF fr [])).length) oc35 (List.flatMap re ((ab ps20).filter (pF fr []))), .fz gx33, .ow 36 2 oa30 (((ab ps20).filter (pF mid [])).length) oc30 (List.flatMap re ((ab ps20).filter (pF mid []))), .fz gx28, .ow 36 2 oa25 (((ab ps20).filter (pF fr mid)).length) oc25 (List.flatMap re ((ab ps20).filter (pF fr mid))), .fz gx23, tb k20 ad20 cp20 ps20, .fz g20] _ := hS43.blkOw' (i := 0) (m := 0) (size := 2) (xs := List.flatMap re []) rfl rfl rfl (by decide); clear hS43
          refine hK _ _ ?_; clear hK K
          refine l_q rfl rfl (q_moveS rfl) ?_
          refine l_e rfl (fun K hK => ?_)
          refine e_app (e := 36) (size := 2) (bytes := 32) (i := 0) (m' := ((ab ps20).filter (pF fr mid)).length) (by kernel_rfl) hS43o rfl rfl rfl (SlG.src (e := 36) (by kernel_rfl) (hS43o.owG (i := 7) rfl) ((rows_len (c := re) (m := 2) (fun _ => rfl) _).trans (by first | rfl | (simp only [List.length_append, List.length_map, List.length_cons, List.length_nil, List.length_take, List.length_drop, List.length_set]; done) | (simp only [List.length_append, List.length_map, List.length_cons, List.length_nil, List.length_take, List.length_drop, List.length_set]; omega) | omega)) (by decide) (rows_one re_ones)) (by first | omega | (simp only [List.length_append, List.length_map, List.length_cons, List.length_nil, List.length_take, List.length_drop, List.length_set] <;> omega) | (simp; done)) rfl (by first | omega | (simp only [maxLen, List.length_append, List.length_map, List.length_cons, List.length_nil, List.length_take, List.length_drop, List.length_set] <;> omega) | (simp only [maxLen]; omega)) (by first | omega | (simp only [List.length_append, List.length_map, List.length_cons, List.length_nil, List.length_take, List.length_drop, List.length_set] <;> omega)) (fun ad44 cp44 w44 (hS44 : St _ _ [.ow 36 2 ad44 (((ab ps20).filter (pF fr mid)).length) cp44 (List.flatMap re ((ab ps20).filter (pF fr mid))), .ow 36 2 oa40 ((ab ps20).length) oc40 (List.flatMap re (ab ps20)), .fz gx38, .ow 36 2 oa35 (((ab ps20).filter (pF fr [])).length) oc35 (List.flatMap re ((ab ps20).filter (pF fr []))), .fz gx33, .ow 36 2 oa30 (((ab ps20).filter (pF mid [])).length) oc30 (List.flatMap re ((ab ps20).filter (pF mid []))), .fz gx28, .ow 36 2 oa25 (((ab ps20).filter (pF fr mid)).length) oc25 (List.flatMap re ((ab ps20).filter (pF fr mid))), .fz gx23, tb k20 ad20 cp20 ps20, .fz g20] _) => ?_)
          clear hS43o
          refine hK _ _ ?_; clear hK K
          refine l_q rfl rfl (q_moveS rfl) ?_
          refine l_e rfl (fun K hK => ?_)
          refine e_app (e := 36) (size := 2) (bytes := 32) (i := 0) (m' := (((ab ps20).filter (pF fr mid)) ++ ((ab ps20).filter (pF mid []))).length) (by kernel_rfl) hS44 rfl rfl rfl (SlG.src (e := 36) (by kernel_rfl) (hS44.owG (i := 5) rfl) ((rows_len (c := re) (m := 2) (fun _ => rfl) _).trans (by first | rfl | (simp only [List.length_append, List.length_map, List.length_cons, List.length_nil, List.length_take, List.length_drop, List.length_set]; done) | (simp only [List.length_append, List.length_map, List.length_cons, List.length_nil, List.length_take, List.length_drop, List.length_set]; omega) | omega)) (by decide) (rows_one re_ones)) (by first | omega | (simp only [List.length_append, List.length_map, List.length_cons, List.length_nil, List.length_take, List.length_drop, List.length_set] <;> omega) | (simp; done)) rows_app (by first | omega | (simp only [maxLen, List.length_append, List.length_map, List.length_cons, List.length_nil, List.length_take, List.length_drop, List.length_set] <;> omega) | (simp only [maxLen]; omega)) (by first | omega | (simp only [List.length_append, List.length_map, List.length_cons, List.length_nil, List.length_take, List.length_drop, List.length_set] <;> omega)) (fun ad45 cp45 w45 (hS45 : St _ _ [.ow 36 2 ad45 ((((ab ps20).filter (pF fr mid)) ++ ((ab ps20).filter (pF mid []))).length) cp45 (List.flatMap re (((ab ps20).filter (pF fr mid)) ++ ((ab ps20).filter (pF mid [])))), .ow 36 2 oa40 ((ab ps20).length) oc40 (List.flatMap re (ab ps20)), .fz gx38, .ow 36 2 oa35 (((ab ps20).filter (pF fr [])).length) oc35 (List.flatMap re ((ab ps20).filter (pF fr []))), .fz gx33, .ow 36 2 oa30 (((ab ps20).filter (pF mid [])).length) oc30 (List.flatMap re ((ab ps20).filter (pF mid []))), .fz gx28, .ow 36 2 oa25 (((ab ps20).filter (pF fr mid)).length) oc25 (List.flatMap re ((ab ps20).filter (pF fr mid))), .fz gx23, tb k20 ad20 cp20 ps20, .fz g20] _) => ?_)
          clear hS44
          refine hK _ _ ?_; clear hK K
          refine l_q rfl rfl (q_moveS rfl) ?_
          refine l_e rfl (fun K hK => ?_)
          refine e_call (by kernel_rfl) (rsame_ok (((ab ps20).filter (pF fr mid)) ++ ((ab ps20).filter (pF mid []))) ((ab ps20).filter (pF fr [])) (KB.app hkb25 hkb30) hkb35 ((((ab ps20).filter (pF fr mid)) ++ ((ab ps20).filter (pF mid []))).length) (((ab ps20).filter (pF fr [])).length) (by first | omega | (simp only [List.length_append, List.length_map, List.length_cons, List.length_nil, List.length_take, List.length_drop, List.length_set] <;> omega)) (by first | omega | (simp only [List.length_append, List.length_map, List.length_cons, List.length_nil, List.length_take, List.length_drop, List.length_set] <;> omega)) (by first | omega | (simp only [List.length_append, List.length_map, List.length_cons, List.length_nil, List.length_take, List.length_drop, List.length_set] <;> omega)) (by first | omega | (simp only [List.length_append, List.length_map, List.length_cons, List.length_nil, List.length_take, List.length_drop, List.length_set] <;> omega)) _ _ _ _ _ (hS45.owG (i := 0) rfl) (hS45.owG (i := 3) rfl)) rfl (after_R hS45 (fun v46 w46 hv46 hS46 => ?_))
          clear hS45
          obtain rfl := hv46
          refine hK _ _ ?_; clear hK K
          refine l_q rfl rfl (q_assignB rfl) ?_
          refine l_nil ?_
          refine hK42 _ _ ?_
          refine wp_seq_k (fun K47 hK47 => ?_)
          refine wp_seq_k (fun K48 hK48 => ?_)
          have hln := ab_len ps20
          refine wp_region_lit ?_
          refine l_q rfl rfl (q_moveB rfl) ?_
          refine l_q rfl rfl (q_not rfl) ?_
          refine l_q rfl rfl (q_moveB rfl) ?_
          refine l_on rfl rfl (by rw [show _ = _ from (decide_eq_true (range_meet hsrt hmid hle))]; rfl) ?_
          refine l_q rfl rfl (q_moveS rfl) ?_
          refine l_on rfl rfl (by rw [show _ = _ from (decide_eq_true (range_meet hsrt hmid hle))]; rfl) ?_
          refine l_q rfl rfl (q_lenSl (e := 36) rfl (by kernel_rfl)) ?_
          refine l_on rfl rfl (by rw [show _ = _ from (decide_eq_true (range_meet hsrt hmid hle))]; rfl) ?_
          refine l_q rfl rfl (q_moveP rfl) ?_
          refine l_on rfl rfl (by rw [show _ = _ from (decide_eq_true (range_meet hsrt hmid hle))]; rfl) ?_
          refine l_e rfl (fun K hK => ?_)
          refine e_call (by kernel_rfl) (tlen_ok k20 _ _ ps20 _ (hS46.tr (i := 9) (j := 10) rfl rfl hT20)) rfl (after_R hS46 (fun v49 w49 hv49 hS49 => ?_))
          clear hS46
          obtain rfl := hv49
          refine hK _ _ ?_; clear hK K
          refine l_on rfl rfl (by rw [show _ = _ from (decide_eq_true (range_meet hsrt hmid hle))]; rfl) ?_
          refine l_q rfl rfl (q_neq rfl rfl) ?_
          refine l_q rfl rfl (q_pickF rfl (by rw [show _ = _ from (decide_eq_true (range_meet hsrt hmid hle))]; rfl) rfl) ?_
          refine l_q rfl rfl (q_moveB rfl) ?_
          refine g_splitL (t := 72) rfl (fun hg50 => ?_) (fun hg50 => ?_)
          ·
            have hg50b := hg50
            try simp only [decide_eq_true_eq, decide_eq_false_iff_not, Bool.not_eq_true', Bool.not_eq_false', Bool.and_eq_true, Bool.or_eq_true, Int.not_lt, Int.not_le, ne_eq, Decidable.not_not] at hg50
            omega
          ·
            have hg50b := hg50
            try simp only [decide_eq_true_eq, decide_eq_false_iff_not, Bool.not_eq_true', Bool.not_eq_false', Bool.and_eq_true, Bool.or_eq_true, Int.not_lt, Int.not_le, ne_eq, Decidable.not_not] at hg50
            refine l_on rfl rfl hg50b ?_
            refine l_q rfl rfl (q_moveS rfl) ?_
            refine l_on rfl rfl hg50b ?_
            refine l_q rfl rfl (q_lenSl (e := 36) rfl (by kernel_rfl)) ?_
            refine l_on rfl rfl hg50b ?_
            refine l_q rfl rfl (q_moveS rfl) ?_
            refine l_on rfl rfl hg50b ?_
            refine l_q rfl rfl (q_lenSl (e := 36) rfl (by kernel_rfl)) ?_
            refine l_on rfl rfl hg50b ?_
            refine l_q rfl rfl (q_gtr rfl rfl) ?_
            refine l_q rfl rfl (q_pickF rfl hg50b rfl) ?_
            refine l_nil ?_
            refine hK48 _ _ ?_
            refine c_cond rfl (fun hc51 => ?_) (fun hc51 => ?_)
            ·
              have hc51b := hc51
              try simp only [decide_eq_true_eq, decide_eq_false_iff_not, Bool.not_eq_true', Bool.not_eq_false', Bool.and_eq_true, Bool.or_eq_true, Int.not_lt, Int.not_le, ne_eq, Decidable.not_not] at hc51
              omega
            ·
              have hc51b := hc51
              try simp only [decide_eq_true_eq, decide_eq_false_iff_not, Bool.not_eq_true', Bool.not_eq_false', Bool.and_eq_true, Bool.or_eq_true, Int.not_lt, Int.not_le, ne_eq, Decidable.not_not] at hc51
              refine wp_skip ?_
              refine hK47 _ _ ?_
              refine wp_seq_k (fun K52 hK52 => ?_)
              refine wp_region_lit ?_
              refine l_q rfl rfl (q_moveS rfl) ?_
              refine l_q rfl rfl (q_moveS rfl) ?_
              refine l_q rfl rfl (q_lenSl (e := 36) rfl (by kernel_rfl)) ?_
              refine l_q rfl rfl (q_moveS rfl) ?_
              refine l_q rfl rfl (q_lenSl (e := 36) rfl (by kernel_rfl)) ?_
              refine l_q rfl rfl (q_subx rfl rfl (by first | decide | omega) (by first | decide | omega)) ?_
              have hcp53 := (hS49.owLen (i := 1) rfl).2.1
              refine l_q rfl rfl (q_sliceX (e := 36) (size := 2) (l := ((ab ps20).length - ((ab ps20).filter (pF fr [])).length)) (h := (ab ps20).length) (m := oc40) (ad' := (subS oa40 ((ab ps20).length - ((ab ps20).filter (pF fr [])).length) 2 oc40)) (len' := ((ab ps20).length - ((ab ps20).length - ((ab ps20).filter (pF fr [])).length))) (cap' := (oc40 - ((ab ps20).length - ((ab ps20).filter (pF fr [])).length))) rfl (by kernel_rfl) (by kernel_rfl) rfl rfl ⟨_, int_nat (by first | rfl | omega) rfl⟩ (by omega) (by first | omega | (simp only [List.length_append, List.length_map, List.length_cons, List.length_nil, List.length_take, List.length_drop, List.length_set] <;> omega)) (by first | omega | (simp only [List.length_append, List.length_map, List.length_cons, List.length_nil, List.length_take, List.length_drop, List.length_set] <;> omega)) rfl rfl rfl rfl) ?_
              refine l_q rfl rfl (q_moveS rfl) ?_
              refine l_e rfl (fun K hK => ?_)
              refine e_call (by kernel_rfl) (rsame_ok ((ab ps20).drop ((ab ps20).length - ((ab ps20).filter (pF fr [])).length)) ((ab ps20).filter (pF fr [])) (KB.drop hkb40) hkb35 ((ab ps20).length - ((ab ps20).length - ((ab ps20).filter (pF fr [])).length)) (((ab ps20).filter (pF fr [])).length) (by first | omega | (simp only [List.length_append, List.length_map, List.length_cons, List.length_nil, List.length_take, List.length_drop, List.length_set] <;> omega)) (by first | omega | (simp only [List.length_append, List.length_map, List.length_cons, List.length_nil, List.length_take, List.length_drop, List.length_set] <;> omega)) (by first | omega | (simp only [List.length_append, List.length_map, List.length_cons, List.length_nil, List.length_take, List.length_drop, List.length_set] <;> omega)) (by first | omega | (simp only [List.length_append, List.length_map, List.length_cons, List.length_nil, List.length_take, List.length_drop, List.length_set] <;> omega)) _ _ _ _ _ ((fun q => (rows_subD (c := re) (m := 2) (fun _ => rfl) (by first | omega | (simp only [List.length_append, List.length_map, List.length_cons, List.length_nil, List.length_take, List.length_drop, List.length_set] <;> omega)) (SlG.sub (l := ((ab ps20).length - ((ab ps20).filter (pF fr [])).length)) (size := 2) (m := oc40) (n := (ab ps20).length - ((ab ps20).length - ((ab ps20).filter (pF fr [])).length)) q (by first | omega | (simp only [List.length_append, List.length_map, List.length_cons, List.length_nil, List.length_take, List.length_drop, List.length_set] <;> omega)) (by decide)))) (hS49.owG (i := 1) rfl)) (hS49.owG (i := 3) rfl)) rfl (after_R hS49 (fun v54 w54 hv54 hS54 => ?_))
              clear hS49
              obtain rfl := hv54
              refine hK _ _ ?_; clear hK K
              refine l_q rfl rfl (q_assignB rfl) ?_
              refine l_nil ?_
              refine hK52 _ _ ?_
              refine wp_seq_k (fun K55 hK55 => ?_)
              refine wp_seq_k (fun K56 hK56 => ?_)
              refine wp_region_lit ?_
              refine l_q rfl rfl (q_assignI rfl) ?_
              refine l_nil ?_
              refine hK56 _ _ ?_
              refine wp_block ?_
              have hS57 := hS54.fr1; clear hS54
              have hS58 : St _ _ [.fz g20, .ow 36 2 oa40 ((ab ps20).length) oc40 (List.flatMap re (ab ps20)), .ow 36 2 ad45 ((((ab ps20).filter (pF fr mid)) ++ ((ab ps20).filter (pF mid []))).length) cp45 (List.flatMap re (((ab ps20).filter (pF fr mid)) ++ ((ab ps20).filter (pF mid [])))), .fz gx38, .ow 36 2 oa35 (((ab ps20).filter (pF fr [])).length) oc35 (List.flatMap re ((ab ps20).filter (pF fr []))), .fz gx33, .ow 36 2 oa30 (((ab ps20).filter (pF mid [])).length) oc30 (List.flatMap re ((ab ps20).filter (pF mid []))), .fz gx28, .ow 36 2 oa25 (((ab ps20).filter (pF fr mid)).length) oc25 (List.flatMap re ((ab ps20).filter (pF fr mid))), .fz gx23, tb k20 ad20 cp20 ps20] _ := hS57.front (k := 10) rfl rfl; clear hS57
              have hS59 : St _ _ [tb k20 ad20 cp20 ps20, .fz g20, .ow 36 2 oa40 ((ab ps20).length) oc40 (List.flatMap re (ab ps20)), .ow 36 2 ad45 ((((ab ps20).filter (pF fr mid)) ++ ((ab ps20).filter (pF mid []))).length) cp45 (List.flatMap re (((ab ps20).filter (pF fr mid)) ++ ((ab ps20).filter (pF mid [])))), .fz gx38, .ow 36 2 oa35 (((ab ps20).filter (pF fr [])).length) oc35 (List.flatMap re ((ab ps20).filter (pF fr []))), .fz gx33, .ow 36 2 oa30 (((ab ps20).filter (pF mid [])).length) oc30 (List.flatMap re ((ab ps20).filter (pF mid []))), .fz gx28, .ow 36 2 oa25 (((ab ps20).filter (pF fr mid)).length) oc25 (List.flatMap re ((ab ps20).filter (pF fr mid))), .fz gx23] _ := hS58.front (k := 10) rfl rfl; clear hS58
              have hS60 : St _ _ [tb k20 ad20 cp20 ps20, .fz g20, .ow 36 2 oa40 ((ab ps20).length) oc40 (List.flatMap re (ab ps20))] _ := hS59.only 3; clear hS59
              refine c_loop (τ := Nat) [(6, 6), (14, 16), (88, 152)] (fun x => (fun (i : Nat) => [(14, .int .i64 ((i : Nat) : Int))]) x) (fun x w' => (fun (i : Nat) => St w (fun _ => False) [tb k20 ad20 cp20 ps20, .fz g20, .ow 36 2 oa40 ((ab ps20).length) oc40 (List.flatMap re (ab ps20))] w' ∧ i ≤ (ab ps20).length) x) (fun x => (fun (i : Nat) => (ab ps20).length - i) x) (0) ?_ (by repeat' (first | exact trivial | refine ⟨by first | rfl | exact int_succ _ | assumption, ?_⟩)) (fun i j61 w61 hJ61 K61 hK61 => ?_)
              ·
                exact ⟨hS60, Nat.zero_le _⟩
              ·
                obtain ⟨hS61, hi⟩ := hJ61
                try dsimp only at hS61 hi ⊢
                refine wp_seq_k (fun K62 hK62 => ?_)
                refine wp_seq_k (fun K63 hK63 => ?_)
                refine wp_region_lit ?_
                refine l_q rfl rfl (q_moveI rfl) ?_
                refine l_q rfl rfl (q_moveS rfl) ?_
                refine l_q rfl rfl (q_lenSl (e := 36) rfl (by kernel_rfl)) ?_
                refine l_q rfl rfl (q_lss rfl rfl) ?_
                refine l_nil ?_
                refine hK63 _ _ ?_
                refine c_cond rfl (fun hc64 => ?_) (fun hc64 => ?_)
                ·
                  have hc64b := hc64
                  try simp only [decide_eq_true_eq, decide_eq_false_iff_not, Bool.not_eq_true', Bool.not_eq_false', Bool.and_eq_true, Bool.or_eq_true, Int.not_lt, Int.not_le, ne_eq, Decidable.not_not] at hc64
                  refine wp_skip ?_
                  refine hK62 _ _ ?_
                  refine wp_seq_k (fun K65 hK65 => ?_)
                  refine wp_block ?_
                  refine wp_seq_k (fun K66 hK66 => ?_)
                  refine wp_region_lit ?_
                  refine l_q rfl rfl (q_moveP rfl) ?_
                  refine l_q rfl rfl (q_moveS rfl) ?_
                  refine l_q rfl rfl (q_moveI rfl) ?_
                  refine l_q rfl rfl (q_ixG (e := 36) (m := 2) (j := i) rfl rfl (by kernel_rfl) (by kernel_rfl) (by first | rfl | omega) (by omega) (hS61.owG (i := 2) rfl) (by rw [rows_len (c := re) (m := 2) (fun _ => rfl)]; first | omega | (simp only [List.length_append, List.length_map, List.length_cons, List.length_nil, List.length_take, List.length_drop, List.length_set] <;> omega))) ?_
                  refine l_q rfl rfl (q_fieldG (ft := 9) (o := 0) rfl (by kernel_rfl)) ?_
                  obtain ⟨x67, hx67⟩ : ∃ x, ((ab ps20))[i]? = some x := ⟨_, List.getElem?_eq_getElem (by first | omega | (simp only [List.length_append, List.length_map, List.length_cons, List.length_nil, List.length_take, List.length_drop, List.length_set] <;> omega) | (simp <;> omega))⟩
                  refine l_q rfl rfl (q_load1 rfl (by kernel_rfl) (SlG.cell (hS61.owG (i := 2) rfl) (Gle.refl _) (row_at hx67 (c := re) (m := 2) (fun _ => rfl) (j := 0) rfl))) ?_
                  have hbx := (hT20.fit (List.mem_of_getElem? hx67)).2.2.1
                  refine l_e rfl (fun K hK => ?_)
                  refine e_convSB (e := 5) (l := x67.1) hS61 rfl (by kernel_rfl) (by kernel_rfl) (by kernel_rfl) (hkb40 x67 (List.mem_of_getElem? hx67)).1 (by first | omega | (simp only [maxLen, List.length_append, List.length_map, List.length_cons, List.length_nil, List.length_take, List.length_drop, List.length_set] <;> omega) | (simp only [maxLen]; omega)) (fun ad68 cp68 g68 w68 hsb68 hcp68 (hS68 : St _ _ [.fz g68, tb k20 ad20 cp20 ps20, .fz g20, .ow 36 2 oa40 ((ab ps20).length) oc40 (List.flatMap re (ab ps20))] _) => ?_)
                  clear hS61
                  refine hK _ _ ?_; clear hK K
                  refine l_e rfl (fun K hK => ?_)
                  have hgb69 := getL_bytes hT20 x67.1
                  refine e_call (by kernel_rfl) (get_ok k20 _ _ ps20 x67.1 (hkb40 x67 (List.mem_of_getElem? hx67)).1 (by first | omega | (simp only [List.length_append, List.length_map, List.length_cons, List.length_nil, List.length_take, List.length_drop, List.length_set] <;> omega)) x67.1.length (by first | omega | (simp only [List.length_append, List.length_map, List.length_cons, List.length_nil, List.length_take, List.length_drop, List.length_set] <;> omega)) _ _ (by first | omega | (simp only [List.length_append, List.length_map, List.length_cons, List.length_nil, List.length_take, List.length_drop, List.length_set] <;> omega)) _ (hS68.tr (i := 1) (j := 2) rfl rfl hT20) (hsb68.mono (hS68.fz (i := 0) rfl))) rfl (after_N hS68 (fun v69 G69 w69 hv69 hS69 => ?_))
                  clear hS68
                  obtain ⟨oa69, oc69, rfl, rfl⟩ := hv69
                  have hS70 : St _ _ [.ow 5 1 oa69 (((getA (ab ps20) x67.1).getD []).length) oc69 (bv ((getA (ab ps20) x67.1).getD [])), .fz g68, tb k20 ad20 cp20 ps20, .fz g20, .ow 36 2 oa40 ((ab ps20).length) oc40 (List.flatMap re (ab ps20))] _ := hS69; clear hS69
                  have his69 : (getA (ab ps20) x67.1).isSome = true := by rw [get_at hsrt hx67]; rfl
                  refine hK _ _ ?_; clear hK K
                  refine l_q rfl rfl (q_move rfl) ?_
                  refine l_q rfl rfl (q_extract rfl rfl) ?_
                  refine l_q rfl rfl (q_extract rfl rfl) ?_
                  refine l_q rfl rfl (q_assignS rfl) ?_
                  refine l_q rfl rfl (q_assignB rfl) ?_
                  refine l_nil ?_
                  refine hK66 _ _ ?_
                  refine wp_seq_k (fun K71 hK71 => ?_)
                  refine r_any (by kernel_rfl) hS70 (fun w72 hS72 => ?_)
                  clear hS70
                  refine o_pure (i := 0) (fun _ _ => trivial) rfl rfl (by kernel_rfl) (goes0 rfl) (QOk.then (QOk.inBlock (QOk.then (QOk.then (QOk.inBlock (QOk.then QOk.body)))))) (fun w => q_moveI rfl) ?_
                  refine o_pure (i := 1) (fun _ _ => trivial) rfl rfl (by kernel_rfl) (goes0 rfl) (QOk.then (QOk.inBlock (QOk.then (QOk.then (QOk.inBlock (QOk.then QOk.body)))))) (fun w => q_gtr rfl rfl) ?_
                  refine o_pure (i := 2) (fun _ _ => trivial) rfl rfl (by kernel_rfl) (goes0 rfl) (QOk.then (QOk.inBlock (QOk.then (QOk.then (QOk.inBlock (QOk.then QOk.body)))))) (fun w => q_moveB rfl) ?_
                  refine g_splitO (t := 107) rfl (fun hg73 => ?_) (fun hg73 => ?_)
                  ·
                    have hg73b := hg73
                    try simp only [decide_eq_true_eq, decide_eq_false_iff_not, Bool.not_eq_true', Bool.not_eq_false', Bool.and_eq_true, Bool.or_eq_true, Int.not_lt, Int.not_le, ne_eq, Decidable.not_not] at hg73
                    refine o_pure (i := 3) (fun _ _ => trivial) rfl rfl (by kernel_rfl) (goes1 rfl rfl hg73b) (QOk.then (QOk.inBlock (QOk.then (QOk.then (QOk.inBlock (QOk.then QOk.body)))))) (fun w => q_moveS rfl) ?_
                    refine o_pure (i := 4) (fun _ _ => trivial) rfl rfl (by kernel_rfl) (goes1 rfl rfl hg73b) (QOk.then (QOk.inBlock (QOk.then (QOk.then (QOk.inBlock (QOk.then QOk.body)))))) (fun w => q_moveI rfl) ?_
                    refine o_pure (i := 5) (fun _ _ => trivial) rfl rfl (by kernel_rfl) (goes1 rfl rfl hg73b) (QOk.then (QOk.inBlock (QOk.then (QOk.then (QOk.inBlock (QOk.then QOk.body)))))) (fun w => q_subx rfl rfl (by first | decide | omega) (by first | decide | omega)) ?_
                    refine o_pure (i := 6) (fun _ _ => trivial) rfl rfl (by kernel_rfl) (goes1 rfl rfl hg73b) (QOk.then (QOk.inBlock (QOk.then (QOk.then (QOk.inBlock (QOk.then QOk.body)))))) (fun w => q_ixG (e := 36) (m := 2) (j := (i - 1)) rfl rfl (by kernel_rfl) (by kernel_rfl) (by first | rfl | omega) (by omega) (hS72.owG (i := 4) rfl) (by rw [rows_len (c := re) (m := 2) (fun _ => rfl)]; first | omega | (simp only [List.length_append, List.length_map, List.length_cons, List.length_nil, List.length_take, List.length_drop, List.length_set] <;> omega))) ?_
                    refine o_pure (i := 7) (fun _ _ => trivial) rfl rfl (by kernel_rfl) (goes1 rfl rfl hg73b) (QOk.then (QOk.inBlock (QOk.then (QOk.then (QOk.inBlock (QOk.then QOk.body)))))) (fun w => q_fieldG (ft := 9) (o := 0) rfl (by kernel_rfl)) ?_
                    obtain ⟨x74, hx74⟩ : ∃ x, ((ab ps20))[(i - 1)]? = some x := ⟨_, List.getElem?_eq_getElem (by first | omega | (simp only [List.length_append, List.length_map, List.length_cons, List.length_nil, List.length_take, List.length_drop, List.length_set] <;> omega) | (simp <;> omega))⟩
                    refine o_held (i := 8) [14, 15, 16, 17, 18, 19, 20, 21, 22, 23, 24, 25, 26, 27, 28, 29, 30, 31, 32, 33, 34, 35, 36, 37, 38, 39, 40, 41, 42, 43, 44, 45, 46, 47] (fun _ _ => trivial) rfl rfl (by kernel_rfl) (goes1 rfl rfl hg73b) (QOk.then (QOk.inBlock (QOk.then (QOk.then (QOk.inBlock (QOk.then QOk.body)))))) (q_load1 rfl (by kernel_rfl) (SlG.cell (hS72.owG (i := 4) rfl) (Gle.refl _) (row_at hx74 (c := re) (m := 2) (fun _ => rfl) (j := 0) rfl))) ?_
                    refine o_pure (i := 9) (fun j w => ⟨(fun _ _ => trivial) j w, fun _ h => h⟩) rfl rfl (by kernel_rfl) (goes1 rfl rfl hg73b) (QOk.then (QOk.inBlock (QOk.then (QOk.then (QOk.inBlock (QOk.then QOk.body)))))) (fun w => q_moveS rfl) ?_
                    refine o_pure (i := 10) (fun j w => ⟨(fun _ _ => trivial) j w, fun _ h => h⟩) rfl rfl (by kernel_rfl) (goes1 rfl rfl hg73b) (QOk.then (QOk.inBlock (QOk.then (QOk.then (QOk.inBlock (QOk.then QOk.body)))))) (fun w => q_moveI rfl) ?_
                    refine o_pure (i := 11) (fun j w => ⟨(fun _ _ => trivial) j w, fun _ h => h⟩) rfl rfl (by kernel_rfl) (goes1 rfl rfl hg73b) (QOk.then (QOk.inBlock (QOk.then (QOk.then (QOk.inBlock (QOk.then QOk.body)))))) (fun w => q_ixG (e := 36) (m := 2) (j := i) rfl rfl (by kernel_rfl) (by kernel_rfl) (by first | rfl | omega) (by omega) (hS72.owG (i := 4) rfl) (by rw [rows_len (c := re) (m := 2) (fun _ => rfl)]; first | omega | (simp only [List.length_append, List.length_map, List.length_cons, List.length_nil, List.length_take, List.length_drop, List.length_set] <;> omega))) ?_
                    refine o_pure (i := 12) (fun j w => ⟨(fun _ _ => trivial) j w, fun _ h => h⟩) rfl rfl (by kernel_rfl) (goes1 rfl rfl hg73b) (QOk.then (QOk.inBlock (QOk.then (QOk.then (QOk.inBlock (QOk.then QOk.body)))))) (fun w => q_fieldG (ft := 9) (o := 0) rfl (by kernel_rfl)) ?_
                    refine o_held (i := 13) [14, 15, 16, 17, 18, 19, 20, 21, 22, 23, 24, 25, 26, 27, 28, 29, 30, 31, 32, 33, 34, 35, 36, 37, 38, 39, 40, 41, 42, 43, 44, 45, 46, 47] (fun j w => ⟨(fun _ _ => trivial) j w, fun _ h => h⟩) rfl rfl (by kernel_rfl) (goes1 rfl rfl hg73b) (QOk.then (QOk.inBlock (QOk.then (QOk.then (QOk.inBlock (QOk.then QOk.body)))))) (q_load1 rfl (by kernel_rfl) (SlG.cell (hS72.owG (i := 4) rfl) (Gle.refl _) (row_at hx67 (c := re) (m := 2) (fun _ => rfl) (j := 0) rfl))) ?_
                    refine o_pure (i := 14) (fun j w => ⟨(fun j w => ⟨(fun _ _ => trivial) j w, fun _ h => h⟩) j w, fun _ h => h⟩) rfl rfl (by kernel_rfl) (goes1 rfl rfl hg73b) (QOk.then (QOk.inBlock (QOk.then (QOk.then (QOk.inBlock (QOk.then QOk.body)))))) (fun w => q_str_geq (l := x74.1) (m := x67.1) rfl rfl (hkb40 x74 (List.mem_of_getElem? hx74)).1 (hkb40 x67 (List.mem_of_getElem? hx67)).1) ?_
                    refine o_pure (i := 15) (fun j w => ⟨(fun j w => ⟨(fun _ _ => trivial) j w, fun _ h => h⟩) j w, fun _ h => h⟩) rfl rfl (by kernel_rfl) (goes0 rfl) (QOk.then (QOk.inBlock (QOk.then (QOk.then (QOk.inBlock (QOk.then QOk.body)))))) (fun w => q_pickT rfl hg73b rfl) ?_
                    refine o_pure (i := 16) (fun j w => ⟨(fun j w => ⟨(fun _ _ => trivial) j w, fun _ h => h⟩) j w, fun _ h => h⟩) rfl rfl (by kernel_rfl) (goes0 rfl) (QOk.then (QOk.inBlock (QOk.then (QOk.then (QOk.inBlock (QOk.then QOk.body)))))) (fun w => q_moveB rfl) ?_
                    refine o_pure (i := 17) (fun j w => ⟨(fun j w => ⟨(fun _ _ => trivial) j w, fun _ h => h⟩) j w, fun _ h => h⟩) rfl rfl (by kernel_rfl) (goes1 rfl rfl (by rw [srt_mid hsrt (by omega) hx74 hx67]; rfl)) (QOk.then (QOk.inBlock (QOk.then (QOk.then (QOk.inBlock (QOk.then QOk.body)))))) (fun w => q_moveB rfl) ?_
                    refine o_pure (i := 18) (fun j w => ⟨(fun j w => ⟨(fun _ _ => trivial) j w, fun _ h => h⟩) j w, fun _ h => h⟩) rfl rfl (by kernel_rfl) (goes1 rfl rfl (by rw [srt_mid hsrt (by omega) hx74 hx67]; rfl)) (QOk.then (QOk.inBlock (QOk.then (QOk.then (QOk.inBlock (QOk.then QOk.body)))))) (fun w => q_not rfl) ?_
                    refine o_pure (i := 19) (fun j w => ⟨(fun j w => ⟨(fun _ _ => trivial) j w, fun _ h => h⟩) j w, fun _ h => h⟩) rfl rfl (by kernel_rfl) (goes0 rfl) (QOk.then (QOk.inBlock (QOk.then (QOk.then (QOk.inBlock (QOk.then QOk.body)))))) (fun w => q_pickF rfl (by rw [srt_mid hsrt (by omega) hx74 hx67]; rfl) rfl) ?_
                    refine o_pure (i := 20) (fun j w => ⟨(fun j w => ⟨(fun _ _ => trivial) j w, fun _ h => h⟩) j w, fun _ h => h⟩) rfl rfl (by kernel_rfl) (goes0 rfl) (QOk.then (QOk.inBlock (QOk.then (QOk.then (QOk.inBlock (QOk.then QOk.body)))))) (fun w => q_moveB rfl) ?_
                    refine o_pure (i := 21) (fun j w => ⟨(fun j w => ⟨(fun _ _ => trivial) j w, fun _ h => h⟩) j w, fun _ h => h⟩) rfl rfl (by kernel_rfl) (goes1 rfl rfl (by rw [show _ = _ from his69]; rfl)) (QOk.then (QOk.inBlock (QOk.then (QOk.then (QOk.inBlock (QOk.then QOk.body)))))) (fun w => q_moveS rfl) ?_
                    refine o_held (i := 22) [28, 29, 30, 31, 32, 33, 34, 35, 36, 37, 38, 39, 40, 41, 42, 43, 44, 45, 46, 47] (fun j w => ⟨(fun j w => ⟨(fun _ _ => trivial) j w, fun _ h => h⟩) j w, fun _ h => h⟩) rfl rfl (by kernel_rfl) (goes1 rfl rfl (by rw [show _ = _ from his69]; rfl)) (QOk.then (QOk.inBlock (QOk.then (QOk.then (QOk.inBlock (QOk.then QOk.body)))))) (q_convBS (l := ((getA (ab ps20) x67.1).getD [])) rfl (hS72.owG (i := 0) rfl) (by first | omega | (simp only [List.length_append, List.length_map, List.length_cons, List.length_nil, List.length_take, List.length_drop, List.length_set] <;> omega)) (by kernel_rfl) (by kernel_rfl)) ?_
                    refine o_pure (i := 23) (fun j w => ⟨(fun j w => ⟨(fun j w => ⟨(fun _ _ => trivial) j w, fun _ h => h⟩) j w, fun _ h => h⟩) j w, fun _ h => h⟩) rfl rfl (by kernel_rfl) (goes1 rfl rfl (by rw [show _ = _ from his69]; rfl)) (QOk.then (QOk.inBlock (QOk.then (QOk.then (QOk.inBlock (QOk.then QOk.body)))))) (fun w => q_moveS rfl) ?_
                    refine o_pure (i := 24) (fun j w => ⟨(fun j w => ⟨(fun j w => ⟨(fun _ _ => trivial) j w, fun _ h => h⟩) j w, fun _ h => h⟩) j w, fun _ h => h⟩) rfl rfl (by kernel_rfl) (goes1 rfl rfl (by rw [show _ = _ from his69]; rfl)) (QOk.then (QOk.inBlock (QOk.then (QOk.then (QOk.inBlock (QOk.then QOk.body)))))) (fun w => q_moveI rfl) ?_
                    refine o_pure (i := 25) (fun j w => ⟨(fun j w => ⟨(fun j w => ⟨(fun _ _ => trivial) j w, fun _ h => h⟩) j w, fun _ h => h⟩) j w, fun _ h => h⟩) rfl rfl (by kernel_rfl) (goes1 rfl rfl (by rw [show _ = _ from his69]; rfl)) (QOk.then (QOk.inBlock (QOk.then (QOk.then (QOk.inBlock (QOk.then QOk.body)))))) (fun w => q_ixG (e := 36) (m := 2) (j := i) rfl rfl (by kernel_rfl) (by kernel_rfl) (by first | rfl | omega) (by omega) (hS72.owG (i := 4) rfl) (by rw [rows_len (c := re) (m := 2) (fun _ => rfl)]; first | omega | (simp only [List.length_append, List.length_map, List.length_cons, List.length_nil, List.length_take, List.length_drop, List.length_set] <;> omega))) ?_
                    refine o_pure (i := 26) (fun j w => ⟨(fun j w => ⟨(fun j w => ⟨(fun _ _ => trivial) j w, fun _ h => h⟩) j w, fun _ h => h⟩) j w, fun _ h => h⟩) rfl rfl (by kernel_rfl) (goes1 rfl rfl (by rw [show _ = _ from his69]; rfl)) (QOk.then (QOk.inBlock (QOk.then (QOk.then (QOk.inBlock (QOk.then QOk.body)))))) (fun w => q_fieldG (ft := 9) (o := 1) rfl (by kernel_rfl)) ?_
                    refine o_held (i := 27) [28, 29, 30, 31, 32, 33, 34, 35, 36, 37, 38, 39, 40, 41, 42, 43, 44, 45, 46, 47] (fun j w => ⟨(fun j w => ⟨(fun j w => ⟨(fun _ _ => trivial) j w, fun _ h => h⟩) j w, fun _ h => h⟩) j w, fun _ h => h⟩) rfl rfl (by kernel_rfl) (goes1 rfl rfl (by rw [show _ = _ from his69]; rfl)) (QOk.then (QOk.inBlock (QOk.then (QOk.then (QOk.inBlock (QOk.then QOk.body)))))) (q_load1 rfl (by kernel_rfl) (SlG.cell (hS72.owG (i := 4) rfl) (Gle.refl _) (row_at hx67 (c := re) (m := 2) (fun _ => rfl) (j := 1) rfl))) ?_
                    refine o_pure (i := 28) (fun j w => ⟨(fun j w => ⟨(fun j w => ⟨(fun j w => ⟨(fun _ _ => trivial) j w, fun _ h => h⟩) j w, fun _ h => h⟩) j w, fun _ h => h⟩) j w, fun _ h => h⟩) rfl rfl (by kernel_rfl) (goes1 rfl rfl (by rw [show _ = _ from his69]; rfl)) (QOk.then (QOk.inBlock (QOk.then (QOk.then (QOk.inBlock (QOk.then QOk.body)))))) (fun w => q_str_neq (l := ((getA (ab ps20) x67.1).getD [])) (m := x67.2) rfl rfl hgb69.1 (hkb40 x67 (List.mem_of_getElem? hx67)).2) ?_
                    refine o_pure (i := 29) (fun j w => ⟨(fun j w => ⟨(fun j w => ⟨(fun j w => ⟨(fun _ _ => trivial) j w, fun _ h => h⟩) j w, fun _ h => h⟩) j w, fun _ h => h⟩) j w, fun _ h => h⟩) rfl rfl (by kernel_rfl) (goes0 rfl) (QOk.then (QOk.inBlock (QOk.then (QOk.then (QOk.inBlock (QOk.then QOk.body)))))) (fun w => q_pickF rfl (by rw [show _ = _ from his69]; rfl) rfl) ?_
                    refine o_pure (i := 30) (fun j w => ⟨(fun j w => ⟨(fun j w => ⟨(fun j w => ⟨(fun _ _ => trivial) j w, fun _ h => h⟩) j w, fun _ h => h⟩) j w, fun _ h => h⟩) j w, fun _ h => h⟩) rfl rfl (by kernel_rfl) (goes0 rfl) (QOk.then (QOk.inBlock (QOk.then (QOk.then (QOk.inBlock (QOk.then QOk.body)))))) (fun w => q_moveB rfl) ?_
                    refine o_pure (i := 31) (fun j w => ⟨(fun j w => ⟨(fun j w => ⟨(fun j w => ⟨(fun _ _ => trivial) j w, fun _ h => h⟩) j w, fun _ h => h⟩) j w, fun _ h => h⟩) j w, fun _ h => h⟩) rfl rfl (by kernel_rfl) (goes1 rfl rfl (by rw [get_at hsrt hx67]; simp)) (QOk.then (QOk.inBlock (QOk.then (QOk.then (QOk.inBlock (QOk.then QOk.body)))))) (fun w => q_moveS rfl) ?_
                    refine o_pure (i := 32) (fun j w => ⟨(fun j w => ⟨(fun j w => ⟨(fun j w => ⟨(fun _ _ => trivial) j w, fun _ h => h⟩) j w, fun _ h => h⟩) j w, fun _ h => h⟩) j w, fun _ h => h⟩) rfl rfl (by kernel_rfl) (goes1 rfl rfl (by rw [get_at hsrt hx67]; simp)) (QOk.then (QOk.inBlock (QOk.then (QOk.then (QOk.inBlock (QOk.then QOk.body)))))) (fun w => q_moveI rfl) ?_
                    refine o_pure (i := 33) (fun j w => ⟨(fun j w => ⟨(fun j w => ⟨(fun j w => ⟨(fun _ _ => trivial) j w, fun _ h => h⟩) j w, fun _ h => h⟩) j w, fun _ h => h⟩) j w, fun _ h => h⟩) rfl rfl (by kernel_rfl) (goes1 rfl rfl (by rw [get_at hsrt hx67]; simp)) (QOk.then (QOk.inBlock (QOk.then (QOk.then (QOk.inBlock (QOk.then QOk.body)))))) (fun w => q_ixG (e := 36) (m := 2) (j := i) rfl rfl (by kernel_rfl) (by kernel_rfl) (by first | rfl | omega) (by omega) (hS72.owG (i := 4) rfl) (by rw [rows_len (c := re) (m := 2) (fun _ => rfl)]; first | omega | (simp only [List.length_append, List.length_map, List.length_cons, List.length_nil, List.length_take, List.length_drop, List.length_set] <;> omega))) ?_
                    refine o_pure (i := 34) (fun j w => ⟨(fun j w => ⟨(fun j w => ⟨(fun j w => ⟨(fun _ _ => trivial) j w, fun _ h => h⟩) j w, fun _ h => h⟩) j w, fun _ h => h⟩) j w, fun _ h => h⟩) rfl rfl (by kernel_rfl) (goes1 rfl rfl (by rw [get_at hsrt hx67]; simp)) (QOk.then (QOk.inBlock (QOk.then (QOk.then (QOk.inBlock (QOk.then QOk.body)))))) (fun w => q_fieldG (ft := 9) (o := 0) rfl (by kernel_rfl)) ?_
                    refine o_held (i := 35) [38, 46, 47] (fun j w => ⟨(fun j w => ⟨(fun j w => ⟨(fun j w => ⟨(fun _ _ => trivial) j w, fun _ h => h⟩) j w, fun _ h => h⟩) j w, fun _ h => h⟩) j w, fun _ h => h⟩) rfl rfl (by kernel_rfl) (goes1 rfl rfl (by rw [get_at hsrt hx67]; simp)) (QOk.then (QOk.inBlock (QOk.then (QOk.then (QOk.inBlock (QOk.then QOk.body)))))) (q_load1 rfl (by kernel_rfl) (SlG.cell (hS72.owG (i := 4) rfl) (Gle.refl _) (row_at hx67 (c := re) (m := 2) (fun _ => rfl) (j := 0) rfl))) ?_
                    refine o_pure (i := 36) (fun j w => ⟨(fun j w => ⟨(fun j w => ⟨(fun j w => ⟨(fun j w => ⟨(fun _ _ => trivial) j w, fun _ h => h⟩) j w, fun _ h => h⟩) j w, fun _ h => h⟩) j w, fun _ h => h⟩) j w, fun _ h => h⟩) rfl rfl (by kernel_rfl) (goes1 rfl rfl (by rw [get_at hsrt hx67]; simp)) (QOk.then (QOk.inBlock (QOk.then (QOk.then (QOk.inBlock (QOk.then QOk.body)))))) (fun w => q_moveS rfl) ?_
                    refine o_held (i := 37) [38, 46, 47] (fun j w => ⟨(fun j w => ⟨(fun j w => ⟨(fun j w => ⟨(fun j w => ⟨(fun _ _ => trivial) j w, fun _ h => h⟩) j w, fun _ h => h⟩) j w, fun _ h => h⟩) j w, fun _ h => h⟩) j w, fun _ h => h⟩) rfl rfl (by kernel_rfl) (goes1 rfl rfl (by rw [get_at hsrt hx67]; simp)) (QOk.then (QOk.inBlock (QOk.then (QOk.then (QOk.inBlock (QOk.then QOk.body)))))) (q_convBS (l := fr) rfl (hfG.mono hS72.base) (by first | omega | (simp only [List.length_append, List.length_map, List.length_cons, List.length_nil, List.length_take, List.length_drop, List.length_set] <;> omega)) (by kernel_rfl) (by kernel_rfl)) ?_
                    refine o_pure (i := 38) (fun j w => ⟨(fun j w => ⟨(fun j w => ⟨(fun j w => ⟨(fun j w => ⟨(fun j w => ⟨(fun _ _ => trivial) j w, fun _ h => h⟩) j w, fun _ h => h⟩) j w, fun _ h => h⟩) j w, fun _ h => h⟩) j w, fun _ h => h⟩) j w, fun _ h => h⟩) rfl rfl (by kernel_rfl) (goes1 rfl rfl (by rw [get_at hsrt hx67]; simp)) (QOk.then (QOk.inBlock (QOk.then (QOk.then (QOk.inBlock (QOk.then QOk.body)))))) (fun w => q_str_geq (l := x67.1) (m := fr) rfl rfl (hkb40 x67 (List.mem_of_getElem? hx67)).1 hfB) ?_
                    refine o_pure (i := 39) (fun j w => ⟨(fun j w => ⟨(fun j w => ⟨(fun j w => ⟨(fun j w => ⟨(fun j w => ⟨(fun _ _ => trivial) j w, fun _ h => h⟩) j w, fun _ h => h⟩) j w, fun _ h => h⟩) j w, fun _ h => h⟩) j w, fun _ h => h⟩) j w, fun _ h => h⟩) rfl rfl (by kernel_rfl) (goes1 rfl rfl (by rw [get_at hsrt hx67]; simp)) (QOk.then (QOk.inBlock (QOk.then (QOk.then (QOk.inBlock (QOk.then QOk.body)))))) (fun w => q_moveI rfl) ?_
                    refine o_pure (i := 40) (fun j w => ⟨(fun j w => ⟨(fun j w => ⟨(fun j w => ⟨(fun j w => ⟨(fun j w => ⟨(fun _ _ => trivial) j w, fun _ h => h⟩) j w, fun _ h => h⟩) j w, fun _ h => h⟩) j w, fun _ h => h⟩) j w, fun _ h => h⟩) j w, fun _ h => h⟩) rfl rfl (by kernel_rfl) (goes1 rfl rfl (by rw [get_at hsrt hx67]; simp)) (QOk.then (QOk.inBlock (QOk.then (QOk.then (QOk.inBlock (QOk.then QOk.body)))))) (fun w => q_moveS rfl) ?_
                    refine o_pure (i := 41) (fun j w => ⟨(fun j w => ⟨(fun j w => ⟨(fun j w => ⟨(fun j w => ⟨(fun j w => ⟨(fun _ _ => trivial) j w, fun _ h => h⟩) j w, fun _ h => h⟩) j w, fun _ h => h⟩) j w, fun _ h => h⟩) j w, fun _ h => h⟩) j w, fun _ h => h⟩) rfl rfl (by kernel_rfl) (goes1 rfl rfl (by rw [get_at hsrt hx67]; simp)) (QOk.then (QOk.inBlock (QOk.then (QOk.then (QOk.inBlock (QOk.then QOk.body)))))) (fun w => q_lenSl (e := 36) rfl (by kernel_rfl)) ?_
                    refine o_pure (i := 42) (fun j w => ⟨(fun j w => ⟨(fun j w => ⟨(fun j w => ⟨(fun j w => ⟨(fun j w => ⟨(fun _ _ => trivial) j w, fun _ h => h⟩) j w, fun _ h => h⟩) j w, fun _ h => h⟩) j w, fun _ h => h⟩) j w, fun _ h => h⟩) j w, fun _ h => h⟩) rfl rfl (by kernel_rfl) (goes1 rfl rfl (by rw [get_at hsrt hx67]; simp)) (QOk.then (QOk.inBlock (QOk.then (QOk.then (QOk.inBlock (QOk.then QOk.body)))))) (fun w => q_moveS rfl) ?_
                    refine o_pure (i := 43) (fun j w => ⟨(fun j w => ⟨(fun j w => ⟨(fun j w => ⟨(fun j w => ⟨(fun j w => ⟨(fun _ _ => trivial) j w, fun _ h => h⟩) j w, fun _ h => h⟩) j w, fun _ h => h⟩) j w, fun _ h => h⟩) j w, fun _ h => h⟩) j w, fun _ h => h⟩) rfl rfl (by kernel_rfl) (goes1 rfl rfl (by rw [get_at hsrt hx67]; simp)) (QOk.then (QOk.inBlock (QOk.then (QOk.then (QOk.inBlock (QOk.then QOk.body)))))) (fun w => q_lenSl (e := 36) rfl (by kernel_rfl)) ?_
                    refine o_pure (i := 44) (fun j w => ⟨(fun j w => ⟨(fun j w => ⟨(fun j w => ⟨(fun j w => ⟨(fun j w => ⟨(fun _ _ => trivial) j w, fun _ h => h⟩) j w, fun _ h => h⟩) j w, fun _ h => h⟩) j w, fun _ h => h⟩) j w, fun _ h => h⟩) j w, fun _ h => h⟩) rfl rfl (by kernel_rfl) (goes1 rfl rfl (by rw [get_at hsrt hx67]; simp)) (QOk.then (QOk.inBlock (QOk.then (QOk.then (QOk.inBlock (QOk.then QOk.body)))))) (fun w => q_subx rfl rfl (by first | decide | omega) (by first | decide | omega)) ?_
                    refine o_pure (i := 45) (fun j w => ⟨(fun j w => ⟨(fun j w => ⟨(fun j w => ⟨(fun j w => ⟨(fun j w => ⟨(fun _ _ => trivial) j w, fun _ h => h⟩) j w, fun _ h => h⟩) j w, fun _ h => h⟩) j w, fun _ h => h⟩) j w, fun _ h => h⟩) j w, fun _ h => h⟩) rfl rfl (by kernel_rfl) (goes1 rfl rfl (by rw [get_at hsrt hx67]; simp)) (QOk.then (QOk.inBlock (QOk.then (QOk.then (QOk.inBlock (QOk.then QOk.body)))))) (fun w => q_geq rfl rfl) ?_
                    refine o_pure (i := 46) (fun j w => ⟨(fun j w => ⟨(fun j w => ⟨(fun j w => ⟨(fun j w => ⟨(fun j w => ⟨(fun _ _ => trivial) j w, fun _ h => h⟩) j w, fun _ h => h⟩) j w, fun _ h => h⟩) j w, fun _ h => h⟩) j w, fun _ h => h⟩) j w, fun _ h => h⟩) rfl rfl (by kernel_rfl) (goes1 rfl rfl (by rw [get_at hsrt hx67]; simp)) (QOk.then (QOk.inBlock (QOk.then (QOk.then (QOk.inBlock (QOk.then QOk.body)))))) (fun w => q_bool_neq rfl rfl (by kernel_rfl)) ?_
                    refine o_pure (i := 47) (fun j w => ⟨(fun j w => ⟨(fun j w => ⟨(fun j w => ⟨(fun j w => ⟨(fun j w => ⟨(fun _ _ => trivial) j w, fun _ h => h⟩) j w, fun _ h => h⟩) j w, fun _ h => h⟩) j w, fun _ h => h⟩) j w, fun _ h => h⟩) j w, fun _ h => h⟩) rfl rfl (by kernel_rfl) (goes0 rfl) (QOk.then (QOk.inBlock (QOk.then (QOk.then (QOk.inBlock (QOk.then QOk.body)))))) (fun w => q_pickF rfl (by rw [get_at hsrt hx67]; simp) rfl) ?_
                    refine o_done (by kernel_rfl) ?_
                    refine hK71 _ _ ?_
                    refine c_condF rfl (by
        have h9 := range_at (fr := fr) hsrt hx67
        rw [h9]; simp only [Bool.not_eq_false', beq_iff_eq, decide_eq_decide]; omega) ?_
                    refine wp_skip ?_
                    refine hK65 _ _ ?_
                    refine wp_region_lit ?_
                    refine l_q rfl rfl (q_moveI rfl) ?_
                    refine l_q rfl rfl (q_addx rfl rfl (by first | decide | omega) (by first | decide | omega)) ?_
                    refine l_q rfl rfl (q_assignI rfl) ?_
                    refine l_nil ?_
                    have hS78 := hS72.fr4; clear hS72
                    have hS79 := hS78.fr4; clear hS78
                    have hS80 := hS79.fr4; clear hS79
                    have hS81 : St _ _ [tb k20 ad20 cp20 ps20, .fz g20, .ow 36 2 oa40 ((ab ps20).length) oc40 (List.flatMap re (ab ps20))] _ := hS80.only 3; clear hS80
                    refine hK61 _ _ (came ((i + 1)) (by repeat' (first | exact Agree.refl _ _ | refine Agree.up ?_ rfl | refine Agree.hav2 ?_ rfl | refine Agree.ups2 ?_ rfl)) (by repeat' (first | exact trivial | refine ⟨by first | rfl | exact int_succ _ | assumption, ?_⟩)) ?_)
                    exact ⟨⟨hS81, (by show i + 1 ≤ (ab ps20).length; omega)⟩, by (show (ab ps20).length - (i + 1) < (ab ps20).length - i); omega⟩
                  ·
                    have hg73b := hg73
                    try simp only [decide_eq_true_eq, decide_eq_false_iff_not, Bool.not_eq_true', Bool.not_eq_false', Bool.and_eq_true, Bool.or_eq_true, Int.not_lt, Int.not_le, ne_eq, Decidable.not_not] at hg73
                    refine o_off (i := 3) (fun _ _ => trivial) rfl rfl (by kernel_rfl) rfl rfl hg73b (QOk.then (QOk.inBlock (QOk.then (QOk.then (QOk.inBlock (QOk.then QOk.body)))))) ?_
                    refine o_off (i := 4) (fun _ _ => trivial) rfl rfl (by kernel_rfl) rfl rfl hg73b (QOk.then (QOk.inBlock (QOk.then (QOk.then (QOk.inBlock (QOk.then QOk.body)))))) ?_
                    refine o_off (i := 5) (fun _ _ => trivial) rfl rfl (by kernel_rfl) rfl rfl hg73b (QOk.then (QOk.inBlock (QOk.then (QOk.then (QOk.inBlock (QOk.then QOk.body)))))) ?_
                    refine o_off (i := 6) (fun _ _ => trivial) rfl rfl (by kernel_rfl) rfl rfl hg73b (QOk.then (QOk.inBlock (QOk.then (QOk.then (QOk.inBlock (QOk.then QOk.body)))))) ?_
                    refine o_off (i := 7) (fun _ _ => trivial) rfl rfl (by kernel_rfl) rfl rfl hg73b (QOk.then (QOk.inBlock (QOk.then (QOk.then (QOk.inBlock (QOk.then QOk.body)))))) ?_
                    refine o_off (i := 8) (fun _ _ => trivial) rfl rfl (by kernel_rfl) rfl rfl hg73b (QOk.then (QOk.inBlock (QOk.then (QOk.then (QOk.inBlock (QOk.then QOk.body)))))) ?_
                    refine o_off (i := 9) (fun _ _ => trivial) rfl rfl (by kernel_rfl) rfl rfl hg73b (QOk.then (QOk.inBlock (QOk.then (QOk.then (QOk.inBlock (QOk.then QOk.body)))))) ?_
                    refine o_off (i := 10) (fun _ _ => trivial) rfl rfl (by kernel_rfl) rfl rfl hg73b (QOk.then (QOk.inBlock (QOk.then (QOk.then (QOk.inBlock (QOk.then QOk.body)))))) ?_
                    refine o_off (i := 11) (fun _ _ => trivial) rfl rfl (by kernel_rfl) rfl rfl hg73b (QOk.then (QOk.inBlock (QOk.then (QOk.then (QOk.inBlock (QOk.then QOk.body)))))) ?_
                    refine o_off (i := 12) (fun _ _ => trivial) rfl rfl (by kernel_rfl) rfl rfl hg73b (QOk.then (QOk.inBlock (QOk.then (QOk.then (QOk.inBlock (QOk.then QOk.body)))))) ?_
                    refine o_off (i := 13) (fun _ _ => trivial) rfl rfl (by kernel_rfl) rfl rfl hg73b (QOk.then (QOk.inBlock (QOk.then (QOk.then (QOk.inBlock (QOk.then QOk.body)))))) ?_
                    refine o_off (i := 14) (fun _ _ => trivial) rfl rfl (by kernel_rfl) rfl rfl hg73b (QOk.then (QOk.inBlock (QOk.then (QOk.then (QOk.inBlock (QOk.then QOk.body)))))) ?_
                    refine o_pure (i := 15) (fun _ _ => trivial) rfl rfl (by kernel_rfl) (goes0 rfl) (QOk.then (QOk.inBlock (QOk.then (QOk.then (QOk.inBlock (QOk.then QOk.body)))))) (fun w => q_pickF rfl hg73b rfl) ?_
                    refine o_pure (i := 16) (fun _ _ => trivial) rfl rfl (by kernel_rfl) (goes0 rfl) (QOk.then (QOk.inBlock (QOk.then (QOk.then (QOk.inBlock (QOk.then QOk.body)))))) (fun w => q_moveB rfl) ?_
                    refine o_pure (i := 17) (fun _ _ => trivial) rfl rfl (by kernel_rfl) (goes1 rfl rfl rfl) (QOk.then (QOk.inBlock (QOk.then (QOk.then (QOk.inBlock (QOk.then QOk.body)))))) (fun w => q_moveB rfl) ?_
                    refine o_pure (i := 18) (fun _ _ => trivial) rfl rfl (by kernel_rfl) (goes1 rfl rfl rfl) (QOk.then (QOk.inBlock (QOk.then (QOk.then (QOk.inBlock (QOk.then QOk.body)))))) (fun w => q_not rfl) ?_
                    refine o_pure (i := 19) (fun _ _ => trivial) rfl rfl (by kernel_rfl) (goes0 rfl) (QOk.then (QOk.inBlock (QOk.then (QOk.then (QOk.inBlock (QOk.then QOk.body)))))) (fun w => q_pickF rfl rfl rfl) ?_
                    refine o_pure (i := 20) (fun _ _ => trivial) rfl rfl (by kernel_rfl) (goes0 rfl) (QOk.then (QOk.inBlock (QOk.then (QOk.then (QOk.inBlock (QOk.then QOk.body)))))) (fun w => q_moveB rfl) ?_
                    refine o_pure (i := 21) (fun _ _ => trivial) rfl rfl (by kernel_rfl) (goes1 rfl rfl (by rw [show _ = _ from his69]; rfl)) (QOk.then (QOk.inBlock (QOk.then (QOk.then (QOk.inBlock (QOk.then QOk.body)))))) (fun w => q_moveS rfl) ?_
                    refine o_held (i := 22) [28, 29, 30, 31, 32, 33, 34, 35, 36, 37, 38, 39, 40, 41, 42, 43, 44, 45, 46, 47] (fun _ _ => trivial) rfl rfl (by kernel_rfl) (goes1 rfl rfl (by rw [show _ = _ from his69]; rfl)) (QOk.then (QOk.inBlock (QOk.then (QOk.then (QOk.inBlock (QOk.then QOk.body)))))) (q_convBS (l := ((getA (ab ps20) x67.1).getD [])) rfl (hS72.owG (i := 0) rfl) (by first | omega | (simp only [List.length_append, List.length_map, List.length_cons, List.length_nil, List.length_take, List.length_drop, List.length_set] <;> omega)) (by kernel_rfl) (by kernel_rfl)) ?_
                    refine o_pure (i := 23) (fun j w => ⟨(fun _ _ => trivial) j w, fun _ h => h⟩) rfl rfl (by kernel_rfl) (goes1 rfl rfl (by rw [show _ = _ from his69]; rfl)) (QOk.then (QOk.inBlock (QOk.then (QOk.then (QOk.inBlock (QOk.then QOk.body)))))) (fun w => q_moveS rfl) ?_
                    refine o_pure (i := 24) (fun j w => ⟨(fun _ _ => trivial) j w, fun _ h => h⟩) rfl rfl (by kernel_rfl) (goes1 rfl rfl (by rw [show _ = _ from his69]; rfl)) (QOk.then (QOk.inBlock (QOk.then (QOk.then (QOk.inBlock (QOk.then QOk.body)))))) (fun w => q_moveI rfl) ?_
                    refine o_pure (i := 25) (fun j w => ⟨(fun _ _ => trivial) j w, fun _ h => h⟩) rfl rfl (by kernel_rfl) (goes1 rfl rfl (by rw [show _ = _ from his69]; rfl)) (QOk.then (QOk.inBlock (QOk.then (QOk.then (QOk.inBlock (QOk.then QOk.body)))))) (fun w => q_ixG (e := 36) (m := 2) (j := i) rfl rfl (by kernel_rfl) (by kernel_rfl) (by first | rfl | omega) (by omega) (hS72.owG (i := 4) rfl) (by rw [rows_len (c := re) (m := 2) (fun _ => rfl)]; first | omega | (simp only [List.length_append, List.length_map, List.length_cons, List.length_nil, List.length_take, List.length_drop, List.length_set] <;> omega))) ?_
                    refine o_pure (i := 26) (fun j w => ⟨(fun _ _ => trivial) j w, fun _ h => h⟩) rfl rfl (by kernel_rfl) (goes1 rfl rfl (by rw [show _ = _ from his69]; rfl)) (QOk.then (QOk.inBlock (QOk.then (QOk.then (QOk.inBlock (QOk.then QOk.body)))))) (fun w => q_fieldG (ft := 9) (o := 1) rfl (by kernel_rfl)) ?_
                    refine o_held (i := 27) [28, 29, 30, 31, 32, 33, 34, 35, 36, 37, 38, 39, 40, 41, 42, 43, 44, 45, 46, 47] (fun j w => ⟨(fun _ _ => trivial) j w, fun _ h => h⟩) rfl rfl (by kernel_rfl) (goes1 rfl rfl (by rw [show _ = _ from his69]; rfl)) (QOk.then (QOk.inBlock (QOk.then (QOk.then (QOk.inBlock (QOk.then QOk.body)))))) (q_load1 rfl (by kernel_rfl) (SlG.cell (hS72.owG (i := 4) rfl) (Gle.refl _) (row_at hx67 (c := re) (m := 2) (fun _ => rfl) (j := 1) rfl))) ?_
                    refine o_pure (i := 28) (fun j w => ⟨(fun j w => ⟨(fun _ _ => trivial) j w, fun _ h => h⟩) j w, fun _ h => h⟩) rfl rfl (by kernel_rfl) (goes1 rfl rfl (by rw [show _ = _ from his69]; rfl)) (QOk.then (QOk.inBlock (QOk.then (QOk.then (QOk.inBlock (QOk.then QOk.body)))))) (fun w => q_str_neq (l := ((getA (ab ps20) x67.1).getD [])) (m := x67.2) rfl rfl hgb69.1 (hkb40 x67 (List.mem_of_getElem? hx67)).2) ?_
                    refine o_pure (i := 29) (fun j w => ⟨(fun j w => ⟨(fun _ _ => trivial) j w, fun _ h => h⟩) j w, fun _ h => h⟩) rfl rfl (by kernel_rfl) (goes0 rfl) (QOk.then (QOk.inBlock (QOk.then (QOk.then (QOk.inBlock (QOk.then QOk.body)))))) (fun w => q_pickF rfl (by rw [show _ = _ from his69]; rfl) rfl) ?_
                    refine o_pure (i := 30) (fun j w => ⟨(fun j w => ⟨(fun _ _ => trivial) j w, fun _ h => h⟩) j w, fun _ h => h⟩) rfl rfl (by kernel_rfl) (goes0 rfl) (QOk.then (QOk.inBlock (QOk.then (QOk.then (QOk.inBlock (QOk.then QOk.body)))))) (fun w => q_moveB rfl) ?_
                    refine o_pure (i := 31) (fun j w => ⟨(fun j w => ⟨(fun _ _ => trivial) j w, fun _ h => h⟩) j w, fun _ h => h⟩) rfl rfl (by kernel_rfl) (goes1 rfl rfl (by rw [get_at hsrt hx67]; simp)) (QOk.then (QOk.inBlock (QOk.then (QOk.then (QOk.inBlock (QOk.then QOk.body)))))) (fun w => q_moveS rfl) ?_
                    refine o_pure (i := 32) (fun j w => ⟨(fun j w => ⟨(fun _ _ => trivial) j w, fun _ h => h⟩) j w, fun _ h => h⟩) rfl rfl (by kernel_rfl) (goes1 rfl rfl (by rw [get_at hsrt hx67]; simp)) (QOk.then (QOk.inBlock (QOk.then (QOk.then (QOk.inBlock (QOk.then QOk.body)))))) (fun w => q_moveI rfl) ?_
                    refine o_pure (i := 33) (fun j w => ⟨(fun j w => ⟨(fun _ _ => trivial) j w, fun _ h => h⟩) j w, fun _ h => h⟩) rfl rfl (by kernel_rfl) (goes1 rfl rfl (by rw [get_at hsrt hx67]; simp)) (QOk.then (QOk.inBlock (QOk.then (QOk.then (QOk.inBlock (QOk.then QOk.body)))))) (fun w => q_ixG (e := 36) (m := 2) (j := i) rfl rfl (by kernel_rfl) (by kernel_rfl) (by first | rfl | omega) (by omega) (hS72.owG (i := 4) rfl) (by rw [rows_len (c := re) (m := 2) (fun _ => rfl)]; first | omega | (simp only [List.length_append, List.length_map, List.length_cons, List.length_nil, List.length_take, List.length_drop, List.length_set] <;> omega))) ?_
                    refine o_pure (i := 34) (fun j w => ⟨(fun j w => ⟨(fun _ _ => trivial) j w, fun _ h => h⟩) j w, fun _ h => h⟩) rfl rfl (by kernel_rfl) (goes1 rfl rfl (by rw [get_at hsrt hx67]; simp)) (QOk.then (QOk.inBlock (QOk.then (QOk.then (QOk.inBlock (QOk.then QOk.body)))))) (fun w => q_fieldG (ft := 9) (o := 0) rfl (by kernel_rfl)) ?_
                    refine o_held (i := 35) [38, 46, 47] (fun j w => ⟨(fun j w => ⟨(fun _ _ => trivial) j w, fun _ h => h⟩) j w, fun _ h => h⟩) rfl rfl (by kernel_rfl) (goes1 rfl rfl (by rw [get_at hsrt hx67]; simp)) (QOk.then (QOk.inBlock (QOk.then (QOk.then (QOk.inBlock (QOk.then QOk.body)))))) (q_load1 rfl (by kernel_rfl) (SlG.cell (hS72.owG (i := 4) rfl) (Gle.refl _) (row_at hx67 (c := re) (m := 2) (fun _ => rfl) (j := 0) rfl))) ?_
                    refine o_pure (i := 36) (fun j w => ⟨(fun j w => ⟨(fun j w => ⟨(fun _ _ => trivial) j w, fun _ h => h⟩) j w, fun _ h => h⟩) j w, fun _ h => h⟩) rfl rfl (by kernel_rfl) (goes1 rfl rfl (by rw [get_at hsrt hx67]; simp)) (QOk.then (QOk.inBlock (QOk.then (QOk.then (QOk.inBlock (QOk.then QOk.body)))))) (fun w => q_moveS rfl) ?_
                    refine o_held (i := 37) [38, 46, 47] (fun j w => ⟨(fun j w => ⟨(fun j w => ⟨(fun _ _ => trivial) j w, fun _ h => h⟩) j w, fun _ h => h⟩) j w, fun _ h => h⟩) rfl rfl (by kernel_rfl) (goes1 rfl rfl (by rw [get_at hsrt hx67]; simp)) (QOk.then (QOk.inBlock (QOk.then (QOk.then (QOk.inBlock (QOk.then QOk.body)))))) (q_convBS (l := fr) rfl (hfG.mono hS72.base) (by first | omega | (simp only [List.length_append, List.length_map, List.length_cons, List.length_nil, List.length_take, List.length_drop, List.length_set] <;> omega)) (by kernel_rfl) (by kernel_rfl)) ?_
                    refine o_pure (i := 38) (fun j w => ⟨(fun j w => ⟨(fun j w => ⟨(fun j w => ⟨(fun _ _ => trivial) j w, fun _ h => h⟩) j w, fun _ h => h⟩) j w, fun _ h => h⟩) j w, fun _ h => h⟩) rfl rfl (by kernel_rfl) (goes1 rfl rfl (by rw [get_at hsrt hx67]; simp)) (QOk.then (QOk.inBlock (QOk.then (QOk.then (QOk.inBlock (QOk.then QOk.body)))))) (fun w => q_str_geq (l := x67.1) (m := fr) rfl rfl (hkb40 x67 (List.mem_of_getElem? hx67)).1 hfB) ?_
                    refine o_pure (i := 39) (fun j w => ⟨(fun j w => ⟨(fun j w => ⟨(fun j w => ⟨(fun _ _ => trivial) j w, fun _ h => h⟩) j w, fun _ h => h⟩) j w, fun _ h => h⟩) j w, fun _ h => h⟩) rfl rfl (by kernel_rfl) (goes1 rfl rfl (by rw [get_at hsrt hx67]; simp)) (QOk.then (QOk.inBlock (QOk.then (QOk.then (QOk.inBlock (QOk.then QOk.body)))))) (fun w => q_moveI rfl) ?_
                    refine o_pure (i := 40) (fun j w => ⟨(fun j w => ⟨(fun j w => ⟨(fun j w => ⟨(fun _ _ => trivial) j w, fun _ h => h⟩) j w, fun _ h => h⟩) j w, fun _ h => h⟩) j w, fun _ h => h⟩) rfl rfl (by kernel_rfl) (goes1 rfl rfl (by rw [get_at hsrt hx67]; simp)) (QOk.then (QOk.inBlock (QOk.then (QOk.then (QOk.inBlock (QOk.then QOk.body)))))) (fun w => q_moveS rfl) ?_
                    refine o_pure (i := 41) (fun j w => ⟨(fun j w => ⟨(fun j w => ⟨(fun j w => ⟨(fun _ _ => trivial) j w, fun _ h => h⟩) j w, fun _ h => h⟩) j w, fun _ h => h⟩) j w, fun _ h => h⟩) rfl rfl (by kernel_rfl) (goes1 rfl rfl (by rw [get_at hsrt hx67]; simp)) (QOk.then (QOk.inBlock (QOk.then (QOk.then (QOk.inBlock (QOk.then QOk.body)))))) (fun w => q_lenSl (e := 36) rfl (by kernel_rfl)) ?_
                    refine o_pure (i := 42) (fun j w => ⟨(fun j w => ⟨(fun j w => ⟨(fun j w => ⟨(fun _ _ => trivial) j w, fun _ h => h⟩) j w, fun _ h => h⟩) j w, fun _ h => h⟩) j w, fun _ h => h⟩) rfl rfl (by kernel_rfl) (goes1 rfl rfl (by rw [get_at hsrt hx67]; simp)) (QOk.then (QOk.inBlock (QOk.then (QOk.then (QOk.inBlock (QOk.then QOk.body)))))) (fun w => q_moveS rfl) ?_
                    refine o_pure (i := 43) (fun j w => ⟨(fun j w => ⟨(fun j w => ⟨(fun j w => ⟨(fun _ _ => trivial) j w, fun _ h => h⟩) j w, fun _ h => h⟩) j w, fun _ h => h⟩) j w, fun _ h => h⟩) rfl rfl (by kernel_rfl) (goes1 rfl rfl (by rw [get_at hsrt hx67]; simp)) (QOk.then (QOk.inBlock (QOk.then (QOk.then (QOk.inBlock (QOk.then QOk.body)))))) (fun w => q_lenSl (e := 36) rfl (by kernel_rfl)) ?_
                    refine o_pure (i := 44) (fun j w => ⟨(fun j w => ⟨(fun j w => ⟨(fun j w => ⟨(fun _ _ => trivial) j w, fun _ h => h⟩) j w, fun _ h => h⟩) j w, fun _ h => h⟩) j w, fun _ h => h⟩) rfl rfl (by kernel_rfl) (goes1 rfl rfl (by rw [get_at hsrt hx67]; simp)) (QOk.then (QOk.inBlock (QOk.then (QOk.then (QOk.inBlock (QOk.then QOk.body)))))) (fun w => q_subx rfl rfl (by first | decide | omega) (by first | decide | omega)) ?_
                    refine o_pure (i := 45) (fun j w => ⟨(fun j w => ⟨(fun j w => ⟨(fun j w => ⟨(fun _ _ => trivial) j w, fun _ h => h⟩) j w, fun _ h => h⟩) j w, fun _ h => h⟩) j w, fun _ h => h⟩) rfl rfl (by kernel_rfl) (goes1 rfl rfl (by rw [get_at hsrt hx67]; simp)) (QOk.then (QOk.inBlock (QOk.then (QOk.then (QOk.inBlock (QOk.then QOk.body)))))) (fun w => q_geq rfl rfl) ?_
                    refine o_pure (i := 46) (fun j w => ⟨(fun j w => ⟨(fun j w => ⟨(fun j w => ⟨(fun _ _ => trivial) j w, fun _ h => h⟩) j w, fun _ h => h⟩) j w, fun _ h => h⟩) j w, fun _ h => h⟩) rfl rfl (by kernel_rfl) (goes1 rfl rfl (by rw [get_at hsrt hx67]; simp)) (QOk.then (QOk.inBlock (QOk.then (QOk.then (QOk.inBlock (QOk.then QOk.body)))))) (fun w => q_bool_neq rfl rfl (by kernel_rfl)) ?_
                    refine o_pure (i := 47) (fun j w => ⟨(fun j w => ⟨(fun j w => ⟨(fun j w => ⟨(fun _ _ => trivial) j w, fun _ h => h⟩) j w, fun _ h => h⟩) j w, fun _ h => h⟩) j w, fun _ h => h⟩) rfl rfl (by kernel_rfl) (goes0 rfl) (QOk.then (QOk.inBlock (QOk.then (QOk.then (QOk.inBlock (QOk.then QOk.body)))))) (fun w => q_pickF rfl (by rw [get_at hsrt hx67]; simp) rfl) ?_
                    refine o_done (by kernel_rfl) ?_
                    refine hK71 _ _ ?_
                    refine c_condF rfl (by
        have h9 := range_at (fr := fr) hsrt hx67
        rw [h9]; simp only [Bool.not_eq_false', beq_iff_eq, decide_eq_decide]; omega) ?_
                    refine wp_skip ?_
                    refine hK65 _ _ ?_
                    refine wp_region_lit ?_
                    refine l_q rfl rfl (q_moveI rfl) ?_
                    refine l_q rfl rfl (q_addx rfl rfl (by first | decide | omega) (by first | decide | omega)) ?_
                    refine l_q rfl rfl (q_assignI rfl) ?_
                    refine l_nil ?_
                    have hS84 := hS72.fr4; clear hS72
                    have hS85 := hS84.fr4; clear hS84
                    have hS86 := hS85.fr4; clear hS85
                    have hS87 : St _ _ [tb k20 ad20 cp20 ps20, .fz g20, .ow 36 2 oa40 ((ab ps20).length) oc40 (List.flatMap re (ab ps20))] _ := hS86.only 3; clear hS86
                    refine hK61 _ _ (came ((i + 1)) (by repeat' (first | exact Agree.refl _ _ | refine Agree.up ?_ rfl | refine Agree.hav2 ?_ rfl | refine Agree.ups2 ?_ rfl)) (by repeat' (first | exact trivial | refine ⟨by first | rfl | exact int_succ _ | assumption, ?_⟩)) ?_)
                    exact ⟨⟨hS87, (by show i + 1 ≤ (ab ps20).length; omega)⟩, by (show (ab ps20).length - (i + 1) < (ab ps20).length - i); omega⟩
                ·
                  have hc64b := hc64
                  try simp only [decide_eq_true_eq, decide_eq_false_iff_not, Bool.not_eq_true', Bool.not_eq_false', Bool.and_eq_true, Bool.or_eq_true, Int.not_lt, Int.not_le, ne_eq, Decidable.not_not] at hc64
                  refine wp_exit ?_
                  refine hK55 _ _ ?_
                  refine wp_seq_k (fun K88 hK88 => ?_)
                  refine wp_region_lit ?_
                  refine l_e rfl (fun K hK => ?_)
                  refine e_call (by kernel_rfl) (alive8_ok _) rfl (after_R hS61 (fun v89 w89 hv89 hS89 => ?_))
                  clear hS61
                  obtain rfl := hv89
                  refine hK _ _ ?_; clear hK K
                  refine l_q rfl rfl (q_moveB rfl) ?_
                  refine l_on rfl rfl rfl ?_
                  refine l_q rfl rfl (q_moveB rfl) ?_
                  refine l_q rfl rfl (q_pickT rfl rfl rfl) ?_
                  refine l_q rfl rfl (q_assignB rfl) ?_
                  refine l_nil ?_
                  refine hK88 _ _ ?_
                  refine wp_ret ?_
                  refine c_ret1 rfl rfl ?_
                  exact ⟨_, rfl, congrArg Value.bool (decide_eq_true (range_tail hsrt)), hS89.drop⟩

end Go.Proofs.Ytmbbkliekgiolaa
