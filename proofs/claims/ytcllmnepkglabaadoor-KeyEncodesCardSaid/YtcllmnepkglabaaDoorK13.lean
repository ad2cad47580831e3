/- law04: KeyBack. -/
import Derived.Test.YtcllmnepkglabaaDoorK12
set_option linter.unusedVariables false
set_option linter.unusedSimpArgs false
namespace Go.Proofs.YtcllmnepkglabaaDoor
open Go.RowKit
theorem enc_len0 : (enc []).length = 0 := rfl
theorem back1 {L : List Vl} (hL : RsOk L) (hp : 0 < (enc L).length) (h : (decR ((enc L).take ((enc L).length - 1))).2 = 0) : (decR ((enc L).take ((enc L).length - 1))).1.length < L.length := by
  obtain ⟨K, hK, _, h2, h3⟩ := decR_zero h
  rw [h3]
  have h4 := List.take_append_drop ((enc L).length - 1) (enc L)
  have h5 := List.length_drop (i := (enc L).length - 1) (l := enc L)
  generalize (enc L).take ((enc L).length - 1) = X at *
  generalize (enc L).drop ((enc L).length - 1) = Y at *
  subst h2
  obtain ⟨m, rfl, h6⟩ := enc_pre hK hL h4.symm
  match m with
  | [] => rw [h6, enc_len0] at h5; omega
  | v :: m => simp
theorem back2 {L : List Vl} {c : Nat} (hL : RsOk L) (h : (decR (enc L ++ [c])).2 = 0) : L.length < (decR (enc L ++ [c])).1.length := by
  obtain ⟨K, hK, _, h2, h3⟩ := decR_zero h
  rw [h3]
  obtain ⟨m, rfl, h6⟩ := enc_pre hL hK h2.symm
  match m with
  | [] => simp [enc_nil] at h6
  | v :: m => simp
attribute [local irreducible] Oper.wp Sem.run Code.wp wpList wpAnyO callFunc execOp Calls
attribute [local irreducible] enc encR rightB toU encV nxB nxN fewB rightL vls vlt
attribute [local irreducible] cmpZ cmB orL vcmp rcmp esc f8 decR

set_option maxHeartbeats 4000000 in
set_option maxRecDepth 100000 in
theorem kback_ok (L : List Vl) (b : List Nat) (c : Nat) (hL : VsOk L) (hb : Bytes b) (hc : c < 256) (al ab : Option Addr) (cl cb : Nat) (hcb : b.length ≤ cb) (hLm : L.length ≤ 9223372036854775807) (w : World) (hG : SlG (hw w) al (List.flatMap vl L)) (hGb : SlG (hw w) ab (bv b)) : Calls Tryd.prog 8 #[.slice al L.length cl, .slice ab b.length cb, .int .u8 ((c : Nat) : Int)] w (PostR w fun v => v = .bool true) := by
  have hS := St.start w
  refine c_enter Tryd.func8 rfl rfl rfl ?_
  refine wp_seq_k (fun K1 hK1 => ?_)
  refine wp_region_lit ?_
  refine l_q rfl rfl (q_assignB rfl) ?_
  refine l_nil ?_
  refine hK1 _ _ ?_
  refine wp_seq_k (fun K2 hK2 => ?_)
  refine wp_region_lit ?_
  refine l_q rfl rfl (q_moveS rfl) ?_
  refine l_e rfl (fun K hK => ?_)
  refine e_call (by kernel_rfl) (few_ok L hL L.length (by first | omega | (simp only [List.length_append, List.length_map, List.length_cons, List.length_nil, List.length_take, List.length_drop, List.length_set] <;> omega)) _ _ _ (hG.mono hS.base)) rfl (after_R hS (fun v3 w3 hv3 hS3 => ?_))
  clear hS
  obtain rfl := hv3
  refine hK _ _ ?_; clear hK K
  refine l_q rfl rfl (q_assignB rfl) ?_
  refine l_nil ?_
  refine hK2 _ _ ?_
  refine wp_seq_k (fun K4 hK4 => ?_)
  refine wp_region_lit ?_
  refine l_q rfl rfl (q_moveS rfl) ?_
  refine l_e rfl (fun K hK => ?_)
  refine e_call (by kernel_rfl) (rightl_ok L hL L.length (by first | omega | (simp only [List.length_append, List.length_map, List.length_cons, List.length_nil, List.length_take, List.length_drop, List.length_set] <;> omega)) _ _ (by first | omega | (simp only [List.length_append, List.length_map, List.length_cons, List.length_nil, List.length_take, List.length_drop, List.length_set] <;> omega)) _ (hG.mono hS3.base)) rfl (after_R hS3 (fun v5 w5 hv5 hS5 => ?_))
  clear hS3
  obtain rfl := hv5
  refine hK _ _ ?_; clear hK K
  refine l_q rfl rfl (q_assignB rfl) ?_
  refine l_nil ?_
  refine hK4 _ _ ?_
  refine wp_seq_k (fun K6 hK6 => ?_)
  refine wp_seq_k (fun K7 hK7 => ?_)
  refine wp_region_lit ?_
  refine l_q rfl rfl (q_moveB rfl) ?_
  refine l_q rfl rfl (q_not rfl) ?_
  refine l_q rfl rfl (q_moveB rfl) ?_
  refine g_splitL (t := 28) rfl (fun hg8 => ?_) (fun hg8 => ?_)
  ·
    have hg8b := hg8
    try simp only [decide_eq_true_eq, decide_eq_false_iff_not, Bool.not_eq_true', Bool.not_eq_false', Bool.and_eq_true, Bool.or_eq_true, Int.not_lt, Int.not_le, ne_eq, Decidable.not_not] at hg8
    refine l_off rfl rfl rfl hg8b ?_
    refine l_off rfl rfl rfl hg8b ?_
    refine l_q rfl rfl (q_pickT rfl hg8b rfl) ?_
    refine l_q rfl rfl (q_moveB rfl) ?_
    refine l_off rfl rfl rfl rfl ?_
    refine l_off rfl rfl rfl rfl ?_
    refine l_off rfl rfl rfl rfl ?_
    refine l_q rfl rfl (q_pickT rfl rfl rfl) ?_
    refine l_nil ?_
    refine hK7 _ _ ?_
    refine c_condT rfl rfl ?_
    refine wp_seq_k (fun K10 hK10 => ?_)
    refine wp_region_lit ?_
    refine l_e rfl (fun K hK => ?_)
    refine e_call (by kernel_rfl) (alive4_ok _) rfl (after_R hS5 (fun v11 w11 hv11 hS11 => ?_))
    clear hS5
    obtain rfl := hv11
    refine hK _ _ ?_; clear hK K
    refine l_q rfl rfl (q_assignB rfl) ?_
    refine l_nil ?_
    refine hK10 _ _ ?_
    refine wp_ret ?_
    refine c_ret1 rfl rfl ?_
    exact ⟨_, rfl, rfl, hS11.drop⟩
  ·
    have hg8b := hg8
    try simp only [decide_eq_true_eq, decide_eq_false_iff_not, Bool.not_eq_true', Bool.not_eq_false', Bool.and_eq_true, Bool.or_eq_true, Int.not_lt, Int.not_le, ne_eq, Decidable.not_not] at hg8
    refine l_on rfl rfl hg8b ?_
    refine l_q rfl rfl (q_moveB rfl) ?_
    refine l_on rfl rfl hg8b ?_
    refine l_q rfl rfl (q_not rfl) ?_
    refine l_q rfl rfl (q_pickF rfl hg8b rfl) ?_
    refine l_q rfl rfl (q_moveB rfl) ?_
    refine g_splitL (t := 32) rfl (fun hg12 => ?_) (fun hg12 => ?_)
    ·
      have hg12b := hg12
      try simp only [decide_eq_true_eq, decide_eq_false_iff_not, Bool.not_eq_true', Bool.not_eq_false', Bool.and_eq_true, Bool.or_eq_true, Int.not_lt, Int.not_le, ne_eq, Decidable.not_not] at hg12
      refine l_off rfl rfl rfl hg12b ?_
      refine l_off rfl rfl rfl hg12b ?_
      refine l_off rfl rfl rfl hg12b ?_
      refine l_q rfl rfl (q_pickT rfl hg12b rfl) ?_
      refine l_nil ?_
      refine hK7 _ _ ?_
      refine c_condT rfl rfl ?_
      refine wp_seq_k (fun K14 hK14 => ?_)
      refine wp_region_lit ?_
      refine l_e rfl (fun K hK => ?_)
      refine e_call (by kernel_rfl) (alive4_ok _) rfl (after_R hS5 (fun v15 w15 hv15 hS15 => ?_))
      clear hS5
      obtain rfl := hv15
      refine hK _ _ ?_; clear hK K
      refine l_q rfl rfl (q_assignB rfl) ?_
      refine l_nil ?_
      refine hK14 _ _ ?_
      refine wp_ret ?_
      refine c_ret1 rfl rfl ?_
      exact ⟨_, rfl, rfl, hS15.drop⟩
    ·
      have hg12b := hg12
      try simp only [decide_eq_true_eq, decide_eq_false_iff_not, Bool.not_eq_true', Bool.not_eq_false', Bool.and_eq_true, Bool.or_eq_true, Int.not_lt, Int.not_le, ne_eq, Decidable.not_not] at hg12
      refine l_on rfl rfl hg12b ?_
      refine l_q rfl rfl (q_moveS rfl) ?_
      refine l_on rfl rfl hg12b ?_
      refine l_q rfl rfl (q_lenSl (e := 5) rfl (by kernel_rfl)) ?_
      refine l_on rfl rfl hg12b ?_
      refine l_q rfl rfl (q_gtr rfl rfl) ?_
      refine l_q rfl rfl (q_pickF rfl hg12b rfl) ?_
      refine l_nil ?_
      refine hK7 _ _ ?_
      refine c_cond rfl (fun hc16 => ?_) (fun hc16 => ?_)
      ·
        have hc16b := hc16
        try simp only [decide_eq_true_eq, decide_eq_false_iff_not, Bool.not_eq_true', Bool.not_eq_false', Bool.and_eq_true, Bool.or_eq_true, Int.not_lt, Int.not_le, ne_eq, Decidable.not_not] at hc16
        refine wp_seq_k (fun K17 hK17 => ?_)
        refine wp_region_lit ?_
        refine l_e rfl (fun K hK => ?_)
        refine e_call (by kernel_rfl) (alive4_ok _) rfl (after_R hS5 (fun v18 w18 hv18 hS18 => ?_))
        clear hS5
        obtain rfl := hv18
        refine hK _ _ ?_; clear hK K
        refine l_q rfl rfl (q_assignB rfl) ?_
        refine l_nil ?_
        refine hK17 _ _ ?_
        refine wp_ret ?_
        refine c_ret1 rfl rfl ?_
        exact ⟨_, rfl, rfl, hS18.drop⟩
      ·
        have hc16b := hc16
        try simp only [decide_eq_true_eq, decide_eq_false_iff_not, Bool.not_eq_true', Bool.not_eq_false', Bool.and_eq_true, Bool.or_eq_true, Int.not_lt, Int.not_le, ne_eq, Decidable.not_not] at hc16
        have hrl : rightL L = true := by assumption
        have hRL := rs_of hL hrl
        have hL16 := (rightL_le hrl).1
        have hdx := decR_yes hRL hL16 rfl
        refine wp_skip ?_
        refine hK6 _ _ ?_
        refine wp_seq_k (fun K19 hK19 => ?_)
        refine wp_region_lit ?_
        refine l_q rfl rfl (q_moveS rfl) ?_
        refine l_e rfl (fun K hK => ?_)
        have hel20 := enc_len hRL.2
        refine e_call (by kernel_rfl) (ency_ok L hRL hL16 L.length (by first | omega | (simp only [List.length_append, List.length_map, List.length_cons, List.length_nil, List.length_take, List.length_drop, List.length_set] <;> omega)) _ _ _ (hG.mono hS5.base)) rfl (after_N hS5 (fun v20 G20 w20 hv20 hS20 => ?_))
        clear hS5
        obtain ⟨oa20, oc20, rfl, rfl⟩ := hv20
        have hS21 : St _ _ [.ow 5 1 oa20 ((enc L).length) oc20 (bv (enc L))] _ := hS20; clear hS20
        refine hK _ _ ?_; clear hK K
        refine l_q rfl rfl (q_move rfl) ?_
        refine l_q rfl rfl (q_extract rfl rfl) ?_
        refine l_q rfl rfl (q_extract rfl rfl) ?_
        refine l_q rfl rfl (q_assignS rfl) ?_
        refine l_q rfl rfl (q_assignI rfl) ?_
        refine l_nil ?_
        refine hK19 _ _ ?_
        refine wp_seq_k (fun K22 hK22 => ?_)
        refine wp_region_lit ?_
        refine l_q rfl rfl (q_moveS rfl) ?_
        refine l_e rfl (fun K hK => ?_)
        have hcp23 := (hS21.owLen (i := 0) rfl).2.1
        have hd23 := decR_len (enc L)
        refine e_call (by kernel_rfl) (dec_ok (enc L) (enc_bytes hRL.1) ((enc L).length) (by first | omega | (simp only [List.length_append, List.length_map, List.length_cons, List.length_nil, List.length_take, List.length_drop, List.length_set] <;> omega)) _ _ (by first | omega | (simp only [List.length_append, List.length_map, List.length_cons, List.length_nil, List.length_take, List.length_drop, List.length_set] <;> omega)) (by first | omega | (simp only [List.length_append, List.length_map, List.length_cons, List.length_nil, List.length_take, List.length_drop, List.length_set] <;> omega)) _ _ (Gle.refl _) (hS21.owG (i := 0) rfl)) rfl (after_N hS21 (fun v23 G23 w23 hv23 hS23 => ?_))
        clear hS21
        obtain ⟨oa23, oc23, rfl, rfl⟩ := hv23
        have hS24 : St _ _ [.ow 31 3 oa23 (((decR (enc L)).1).length) oc23 (List.flatMap vl ((decR (enc L)).1)), .ow 5 1 oa20 ((enc L).length) oc20 (bv (enc L))] _ := hS23; clear hS23
        refine hK _ _ ?_; clear hK K
        refine l_q rfl rfl (q_move rfl) ?_
        refine l_q rfl rfl (q_extract rfl rfl) ?_
        refine l_q rfl rfl (q_extract rfl rfl) ?_
        refine l_q rfl rfl (q_assignS rfl) ?_
        refine l_q rfl rfl (q_assignI rfl) ?_
        refine l_nil ?_
        refine hK22 _ _ ?_
        refine wp_seq_k (fun K25 hK25 => ?_)
        refine wp_region_lit ?_
        refine l_q rfl rfl (q_moveS rfl) ?_
        refine l_q rfl rfl (q_moveS rfl) ?_
        refine l_e rfl (fun K hK => ?_)
        refine e_call (by kernel_rfl) (same_ok ((decR (enc L)).1) L (decR_vs (enc L)) hL _ _ _ _ (by first | omega | (simp only [List.length_append, List.length_map, List.length_cons, List.length_nil, List.length_take, List.length_drop, List.length_set] <;> omega)) (by first | omega | (simp only [List.length_append, List.length_map, List.length_cons, List.length_nil, List.length_take, List.length_drop, List.length_set] <;> omega)) _ _ (by first | omega | (simp only [List.length_append, List.length_map, List.length_cons, List.length_nil, List.length_take, List.length_drop, List.length_set] <;> omega)) _ (hS24.owG (i := 0) rfl) (hG.mono hS24.base)) rfl (after_R hS24 (fun v26 w26 hv26 hS26 => ?_))
        clear hS24
        obtain rfl := hv26
        refine hK _ _ ?_; clear hK K
        refine l_q rfl rfl (q_assignB rfl) ?_
        refine l_nil ?_
        refine hK25 _ _ ?_
        refine wp_seq_k (fun K27 hK27 => ?_)
        refine wp_region_lit ?_
        refine l_q rfl rfl (q_moveS rfl) ?_
        refine l_e rfl (fun K hK => ?_)
        have hd28 := decR_len b
        refine e_call (by kernel_rfl) (dec_ok b hb b.length (by first | omega | (simp only [List.length_append, List.length_map, List.length_cons, List.length_nil, List.length_take, List.length_drop, List.length_set] <;> omega)) _ _ (by first | omega | (simp only [List.length_append, List.length_map, List.length_cons, List.length_nil, List.length_take, List.length_drop, List.length_set] <;> omega)) (by first | omega | (simp only [List.length_append, List.length_map, List.length_cons, List.length_nil, List.length_take, List.length_drop, List.length_set] <;> omega)) _ _ (Gle.refl _) (hGb.mono hS26.base)) rfl (after_N hS26 (fun v28 G28 w28 hv28 hS28 => ?_))
        clear hS26
        obtain ⟨oa28, oc28, rfl, rfl⟩ := hv28
        have hS29 : St _ _ [.ow 31 3 oa28 (((decR b).1).length) oc28 (List.flatMap vl ((decR b).1)), .ow 31 3 oa23 (((decR (enc L)).1).length) oc23 (List.flatMap vl ((decR (enc L)).1)), .ow 5 1 oa20 ((enc L).length) oc20 (bv (enc L))] _ := hS28; clear hS28
        refine hK _ _ ?_; clear hK K
        refine l_q rfl rfl (q_move rfl) ?_
        refine l_q rfl rfl (q_extract rfl rfl) ?_
        refine l_q rfl rfl (q_extract rfl rfl) ?_
        refine l_q rfl rfl (q_assignS rfl) ?_
        refine l_q rfl rfl (q_assignI rfl) ?_
        refine l_nil ?_
        refine hK27 _ _ ?_
        refine wp_seq_k (fun K30 hK30 => ?_)
        refine wp_seq_k (fun K31 hK31 => ?_)
        refine wp_region_lit ?_
        refine l_q rfl rfl (q_moveI rfl) ?_
        refine l_q rfl rfl (q_eql rfl rfl) ?_
        refine l_nil ?_
        refine hK31 _ _ ?_
        refine c_cond rfl (fun hc32 => ?_) (fun hc32 => ?_)
        ·
          have hc32b := hc32
          try simp only [decide_eq_true_eq, decide_eq_false_iff_not, Bool.not_eq_true', Bool.not_eq_false', Bool.and_eq_true, Bool.or_eq_true, Int.not_lt, Int.not_le, ne_eq, Decidable.not_not] at hc32
          obtain ⟨K, hK, hK16, hbK, hdK⟩ := decR_zero (b := b) (by omega)
          have hRz : RsOk (decR b).1 := by rw [hdK]; exact hK
          have hz16 : (decR b).1.length ≤ 16 := by rw [hdK]; exact hK16
          have hzb : enc (decR b).1 = b := by rw [hdK, ← hbK]
          refine wp_seq_k (fun K33 hK33 => ?_)
          refine wp_region_lit ?_
          refine l_q rfl rfl (q_moveS rfl) ?_
          refine l_e rfl (fun K hK => ?_)
          have hel34 := enc_len hRz.2
          refine e_call (by kernel_rfl) (ency_ok ((decR b).1) hRz hz16 (((decR b).1).length) (by first | omega | (simp only [List.length_append, List.length_map, List.length_cons, List.length_nil, List.length_take, List.length_drop, List.length_set] <;> omega)) _ _ _ (hS29.owG (i := 0) rfl)) rfl (after_N hS29 (fun v34 G34 w34 hv34 hS34 => ?_))
          clear hS29
          obtain ⟨oa34, oc34, rfl, rfl⟩ := hv34
          have hS35 : St _ _ [.ow 5 1 oa34 ((enc ((decR b).1)).length) oc34 (bv (enc ((decR b).1))), .ow 31 3 oa28 (((decR b).1).length) oc28 (List.flatMap vl ((decR b).1)), .ow 31 3 oa23 (((decR (enc L)).1).length) oc23 (List.flatMap vl ((decR (enc L)).1)), .ow 5 1 oa20 ((enc L).length) oc20 (bv (enc L))] _ := hS34; clear hS34
          refine hK _ _ ?_; clear hK K
          refine l_q rfl rfl (q_move rfl) ?_
          refine l_q rfl rfl (q_extract rfl rfl) ?_
          refine l_q rfl rfl (q_extract rfl rfl) ?_
          refine l_q rfl rfl (q_assignS rfl) ?_
          refine l_q rfl rfl (q_assignI rfl) ?_
          refine l_nil ?_
          refine hK33 _ _ ?_
          refine wp_seq_k (fun K36 hK36 => ?_)
          refine wp_region_lit ?_
          refine l_q rfl rfl (q_moveI rfl) ?_
          refine l_q rfl rfl (q_neq rfl rfl) ?_
          refine l_q rfl rfl (q_moveB rfl) ?_
          refine l_on rfl rfl (by decide) ?_
          refine l_q rfl rfl (q_moveS rfl) ?_
          refine l_on rfl rfl (by decide) ?_
          refine l_q rfl rfl (q_convBS (l := (enc ((decR b).1))) rfl (hS35.owG (i := 0) rfl) (by first | omega | (simp only [List.length_append, List.length_map, List.length_cons, List.length_nil, List.length_take, List.length_drop, List.length_set] <;> omega)) (by kernel_rfl) (by kernel_rfl)) ?_
          refine l_on rfl rfl (by decide) ?_
          refine l_q rfl rfl (q_moveS rfl) ?_
          refine l_on rfl rfl (by decide) ?_
          refine l_q rfl rfl (q_convBS (l := b) rfl (hGb.mono hS35.base) (by first | omega | (simp only [List.length_append, List.length_map, List.length_cons, List.length_nil, List.length_take, List.length_drop, List.length_set] <;> omega)) (by kernel_rfl) (by kernel_rfl)) ?_
          refine l_on rfl rfl (by decide) ?_
          refine l_q rfl rfl (q_str_neq (l := (enc ((decR b).1))) (m := b) rfl rfl (enc_bytes hRz.1) hb) ?_
          refine l_q rfl rfl (q_pickF rfl (by decide) rfl) ?_
          refine l_nil ?_
          refine hK36 _ _ ?_
          refine c_cond rfl (fun hc37 => ?_) (fun hc37 => ?_)
          ·
            have hc37b := hc37
            try simp only [decide_eq_true_eq, decide_eq_false_iff_not, Bool.not_eq_true', Bool.not_eq_false', Bool.and_eq_true, Bool.or_eq_true, Int.not_lt, Int.not_le, ne_eq, Decidable.not_not] at hc37
            exact absurd hzb (by first | exact hc37 | simpa using hc37)
          ·
            have hc37b := hc37
            try simp only [decide_eq_true_eq, decide_eq_false_iff_not, Bool.not_eq_true', Bool.not_eq_false', Bool.and_eq_true, Bool.or_eq_true, Int.not_lt, Int.not_le, ne_eq, Decidable.not_not] at hc37
            refine wp_skip ?_
            refine hK30 _ _ ?_
            refine wp_seq_k (fun K38 hK38 => ?_)
            refine wp_seq_k (fun K39 hK39 => ?_)
            refine wp_region_lit ?_
            refine l_q rfl rfl (q_moveS rfl) ?_
            refine l_q rfl rfl (q_lenSl (e := 5) rfl (by kernel_rfl)) ?_
            refine l_q rfl rfl (q_gtr rfl rfl) ?_
            refine l_nil ?_
            refine hK39 _ _ ?_
            refine c_cond rfl (fun hc40 => ?_) (fun hc40 => ?_)
            ·
              have hc40b := hc40
              try simp only [decide_eq_true_eq, decide_eq_false_iff_not, Bool.not_eq_true', Bool.not_eq_false', Bool.and_eq_true, Bool.or_eq_true, Int.not_lt, Int.not_le, ne_eq, Decidable.not_not] at hc40
              refine wp_seq_k (fun K41 hK41 => ?_)
              refine wp_region_lit ?_
              refine l_q rfl rfl (q_moveS rfl) ?_
              refine l_q rfl rfl (q_moveS rfl) ?_
              refine l_q rfl rfl (q_lenSl (e := 5) rfl (by kernel_rfl)) ?_
              refine l_q rfl rfl (q_subx rfl rfl (by first | decide | omega) (by first | decide | omega)) ?_
              have hcp42 := (hS35.owLen (i := 3) rfl).2.1
              refine l_q rfl rfl (q_sliceX (e := 5) (size := 1) (l := 0) (h := ((enc L).length - 1)) (m := oc20) (ad' := oa20) (len' := ((enc L).length - 1)) (cap' := oc20) rfl (by kernel_rfl) (by kernel_rfl) rfl ⟨_, int_nat (by first | rfl | omega) rfl⟩ rfl (by omega) (by first | omega | (simp only [List.length_append, List.length_map, List.length_cons, List.length_nil, List.length_take, List.length_drop, List.length_set] <;> omega)) (by first | omega | (simp only [List.length_append, List.length_map, List.length_cons, List.length_nil, List.length_take, List.length_drop, List.length_set] <;> omega)) rfl subS_zero (Nat.sub_zero _) (Nat.sub_zero _)) ?_
              refine l_e rfl (fun K hK => ?_)
              have hd43 := decR_len ((enc L).take ((enc L).length - 1))
              refine e_call (by kernel_rfl) (dec_ok ((enc L).take ((enc L).length - 1)) (Bytes.take (enc_bytes hRL.1)) ((enc L).length - 1) (by first | omega | (simp only [List.length_append, List.length_map, List.length_cons, List.length_nil, List.length_take, List.length_drop, List.length_set] <;> omega)) _ _ (by first | omega | (simp only [List.length_append, List.length_map, List.length_cons, List.length_nil, List.length_take, List.length_drop, List.length_set] <;> omega)) (by first | omega | (simp only [List.length_append, List.length_map, List.length_cons, List.length_nil, List.length_take, List.length_drop, List.length_set] <;> omega)) _ _ (Gle.refl _) ((fun q => (bv_takeG (n := ((enc L).length - 1)) q)) (hS35.owG (i := 3) rfl))) rfl (after_N hS35 (fun v43 G43 w43 hv43 hS43 => ?_))
              clear hS35
              obtain ⟨oa43, oc43, rfl, rfl⟩ := hv43
              have hS44 : St _ _ [.ow 31 3 oa43 (((decR ((enc L).take ((enc L).length - 1))).1).length) oc43 (List.flatMap vl ((decR ((enc L).take ((enc L).length - 1))).1)), .ow 5 1 oa34 ((enc ((decR b).1)).length) oc34 (bv (enc ((decR b).1))), .ow 31 3 oa28 (((decR b).1).length) oc28 (List.flatMap vl ((decR b).1)), .ow 31 3 oa23 (((decR (enc L)).1).length) oc23 (List.flatMap vl ((decR (enc L)).1)), .ow 5 1 oa20 ((enc L).length) oc20 (bv (enc L))] _ := hS43; clear hS43
              refine hK _ _ ?_; clear hK K
              refine l_q rfl rfl (q_move rfl) ?_
              refine l_q rfl rfl (q_extract rfl rfl) ?_
              refine l_q rfl rfl (q_extract rfl rfl) ?_
              refine l_q rfl rfl (q_assignS rfl) ?_
              refine l_q rfl rfl (q_assignI rfl) ?_
              refine l_nil ?_
              refine hK41 _ _ ?_
              refine wp_seq_k (fun K45 hK45 => ?_)
              refine wp_region_lit ?_
              refine l_q rfl rfl (q_moveI rfl) ?_
              refine l_q rfl rfl (q_eql rfl rfl) ?_
              refine l_q rfl rfl (q_moveB rfl) ?_
              refine g_splitL (t := 86) rfl (fun hg46 => ?_) (fun hg46 => ?_)
              ·
                have hg46b := hg46
                try simp only [decide_eq_true_eq, decide_eq_false_iff_not, Bool.not_eq_true', Bool.not_eq_false', Bool.and_eq_true, Bool.or_eq_true, Int.not_lt, Int.not_le, ne_eq, Decidable.not_not] at hg46
                refine l_on rfl rfl hg46b ?_
                refine l_q rfl rfl (q_moveS rfl) ?_
                refine l_on rfl rfl hg46b ?_
                refine l_q rfl rfl (q_lenSl (e := 31) rfl (by kernel_rfl)) ?_
                refine l_on rfl rfl hg46b ?_
                refine l_q rfl rfl (q_moveS rfl) ?_
                refine l_on rfl rfl hg46b ?_
                refine l_q rfl rfl (q_lenSl (e := 31) rfl (by kernel_rfl)) ?_
                refine l_on rfl rfl hg46b ?_
                refine l_q rfl rfl (q_geq rfl rfl) ?_
                refine l_q rfl rfl (q_pickT rfl hg46b rfl) ?_
                refine l_nil ?_
                refine hK45 _ _ ?_
                refine c_cond rfl (fun hc47 => ?_) (fun hc47 => ?_)
                ·
                  have hc47b := hc47
                  try simp only [decide_eq_true_eq, decide_eq_false_iff_not, Bool.not_eq_true', Bool.not_eq_false', Bool.and_eq_true, Bool.or_eq_true, Int.not_lt, Int.not_le, ne_eq, Decidable.not_not] at hc47
                  exact absurd (back1 hRL (by omega) (by omega)) (by omega)
                ·
                  have hc47b := hc47
                  try simp only [decide_eq_true_eq, decide_eq_false_iff_not, Bool.not_eq_true', Bool.not_eq_false', Bool.and_eq_true, Bool.or_eq_true, Int.not_lt, Int.not_le, ne_eq, Decidable.not_not] at hc47
                  refine wp_skip ?_
                  refine hK38 _ _ ?_
                  refine wp_seq_k (fun K48 hK48 => ?_)
                  refine wp_region_lit ?_
                  refine l_e rfl (fun K hK => ?_)
                  refine e_buildSlice1 (e := 5) (zv := .int .u8 0) (xs := []) hS44 (by kernel_rfl) (by kernel_rfl) (by kernel_rfl) rfl rfl rfl rfl ((by intro u hu; cases hu)) rfl (fun b49 w49 (hS49 : St _ _ [.blk b49 (.cells #[] 5), .ow 31 3 oa43 (((decR ((enc L).take ((enc L).length - 1))).1).length) oc43 (List.flatMap vl ((decR ((enc L).take ((enc L).length - 1))).1)), .ow 5 1 oa34 ((enc ((decR b).1)).length) oc34 (bv (enc ((decR b).1))), .ow 31 3 oa28 (((decR b).1).length) oc28 (List.flatMap vl ((decR b).1)), .ow 31 3 oa23 (((decR (enc L)).1).length) oc23 (List.flatMap vl ((decR (enc L)).1)), .ow 5 1 oa20 ((enc L).length) oc20 (bv (enc L))] _) => ?_)
                  clear hS44
                  have hS49o : St _ _ [.ow 5 1 (some ⟨b49, 0, none⟩) 0 0 (bv []), .ow 31 3 oa43 (((decR ((enc L).take ((enc L).length - 1))).1).length) oc43 (List.flatMap vl ((decR ((enc L).take ((enc L).length - 1))).1)), .ow 5 1 oa34 ((enc ((decR b).1)).length) oc34 (bv (enc ((decR b).1))), .ow 31 3 oa28 (((decR b).1).length) oc28 (List.flatMap vl ((decR b).1)), .ow 31 3 oa23 (((decR (enc L)).1).length) oc23 (List.flatMap vl ((decR (enc L)).1)), .ow 5 1 oa20 ((enc L).length) oc20 (bv (enc L))] _ := hS49.blkOw' (i := 0) (m := 0) (size := 1) (xs := bv []) rfl rfl rfl (by decide); clear hS49
                  refine hK _ _ ?_; clear hK K
                  refine l_q rfl rfl (q_moveS rfl) ?_
                  refine l_e rfl (fun K hK => ?_)
                  refine e_app (e := 5) (size := 1) (bytes := 1) (i := 0) (m' := (enc L).length) (by kernel_rfl) hS49o rfl rfl rfl (SlG.src (e := 5) (by kernel_rfl) (hS49o.owG (i := 5) rfl) (by first | (simp only [List.length_append, List.length_map, List.length_cons, List.length_nil, List.length_take, List.length_drop, List.length_set, Nat.mul_one]; done) | (simp only [List.length_append, List.length_map, List.length_cons, List.length_nil, List.length_take, List.length_drop, List.length_set]; omega) | rfl | (simp; done)) (by decide) (bv_one _)) (by first | omega | (simp only [List.length_append, List.length_map, List.length_cons, List.length_nil, List.length_take, List.length_drop, List.length_set] <;> omega) | (simp; done)) rfl (by first | omega | (simp only [maxLen, List.length_append, List.length_map, List.length_cons, List.length_nil, List.length_take, List.length_drop, List.length_set] <;> omega) | (simp only [maxLen]; omega)) (by first | omega | (simp only [List.length_append, List.length_map, List.length_cons, List.length_nil, List.length_take, List.length_drop, List.length_set] <;> omega)) (fun ad50 cp50 w50 (hS50 : St _ _ [.ow 5 1 ad50 ((enc L).length) cp50 (bv (enc L)), .ow 31 3 oa43 (((decR ((enc L).take ((enc L).length - 1))).1).length) oc43 (List.flatMap vl ((decR ((enc L).take ((enc L).length - 1))).1)), .ow 5 1 oa34 ((enc ((decR b).1)).length) oc34 (bv (enc ((decR b).1))), .ow 31 3 oa28 (((decR b).1).length) oc28 (List.flatMap vl ((decR b).1)), .ow 31 3 oa23 (((decR (enc L)).1).length) oc23 (List.flatMap vl ((decR (enc L)).1)), .ow 5 1 oa20 ((enc L).length) oc20 (bv (enc L))] _) => ?_)
                  clear hS49o
                  refine hK _ _ ?_; clear hK K
                  refine l_q rfl rfl (q_moveI rfl) ?_
                  refine l_e rfl (fun K hK => ?_)
                  refine e_buildSlice1 (e := 5) (zv := .int .u8 0) (xs := [.tmp 97]) hS50 (by kernel_rfl) (by kernel_rfl) (by kernel_rfl) rfl rfl rfl rfl (allone (by repeat' (first | exact trivial | refine ⟨by first | rfl | assumption, ?_⟩))) rfl (fun b51 w51 (hS51 : St _ _ [.blk b51 (.cells #[.int .u8 ((c : Nat) : Int)] 5), .ow 5 1 ad50 ((enc L).length) cp50 (bv (enc L)), .ow 31 3 oa43 (((decR ((enc L).take ((enc L).length - 1))).1).length) oc43 (List.flatMap vl ((decR ((enc L).take ((enc L).length - 1))).1)), .ow 5 1 oa34 ((enc ((decR b).1)).length) oc34 (bv (enc ((decR b).1))), .ow 31 3 oa28 (((decR b).1).length) oc28 (List.flatMap vl ((decR b).1)), .ow 31 3 oa23 (((decR (enc L)).1).length) oc23 (List.flatMap vl ((decR (enc L)).1)), .ow 5 1 oa20 ((enc L).length) oc20 (bv (enc L))] _) => ?_)
                  clear hS50
                  have hS51o : St _ _ [.ow 5 1 (some ⟨b51, 0, none⟩) 1 1 (bv [c]), .ow 5 1 ad50 ((enc L).length) cp50 (bv (enc L)), .ow 31 3 oa43 (((decR ((enc L).take ((enc L).length - 1))).1).length) oc43 (List.flatMap vl ((decR ((enc L).take ((enc L).length - 1))).1)), .ow 5 1 oa34 ((enc ((decR b).1)).length) oc34 (bv (enc ((decR b).1))), .ow 31 3 oa28 (((decR b).1).length) oc28 (List.flatMap vl ((decR b).1)), .ow 31 3 oa23 (((decR (enc L)).1).length) oc23 (List.flatMap vl ((decR (enc L)).1)), .ow 5 1 oa20 ((enc L).length) oc20 (bv (enc L))] _ := hS51.blkOw' (i := 0) (m := 1) (size := 1) (xs := bv [c]) rfl rfl rfl (by decide); clear hS51
                  refine hK _ _ ?_; clear hK K
                  refine l_e rfl (fun K hK => ?_)
                  have hB52 : Bytes ((enc L) ++ [c]) := Bytes.app (enc_bytes hRL.1) (fun x hx => by rw [List.mem_singleton] at hx; subst hx; exact hc)
                  refine e_app (e := 5) (size := 1) (bytes := 1) (i := 1) (m' := ((enc L) ++ [c]).length) (by kernel_rfl) hS51o rfl rfl rfl (SlG.src (e := 5) (by kernel_rfl) (hS51o.owG (i := 0) rfl) (by first | (simp only [List.length_append, List.length_map, List.length_cons, List.length_nil, List.length_take, List.length_drop, List.length_set, Nat.mul_one]; done) | (simp only [List.length_append, List.length_map, List.length_cons, List.length_nil, List.length_take, List.length_drop, List.length_set]; omega) | rfl | (simp; done)) (by decide) (bv_one _)) (by first | omega | (simp only [List.length_append, List.length_map, List.length_cons, List.length_nil, List.length_take, List.length_drop, List.length_set] <;> omega) | (simp; done)) bv_app (by first | omega | (simp only [maxLen, List.length_append, List.length_map, List.length_cons, List.length_nil, List.length_take, List.length_drop, List.length_set] <;> omega) | (simp only [maxLen]; omega)) (by first | omega | (simp only [List.length_append, List.length_map, List.length_cons, List.length_nil, List.length_take, List.length_drop, List.length_set] <;> omega)) (fun ad52 cp52 w52 (hS52 : St _ _ [.ow 5 1 (some ⟨b51, 0, none⟩) 1 1 (bv [c]), .ow 5 1 ad52 (((enc L) ++ [c]).length) cp52 (bv ((enc L) ++ [c])), .ow 31 3 oa43 (((decR ((enc L).take ((enc L).length - 1))).1).length) oc43 (List.flatMap vl ((decR ((enc L).take ((enc L).length - 1))).1)), .ow 5 1 oa34 ((enc ((decR b).1)).length) oc34 (bv (enc ((decR b).1))), .ow 31 3 oa28 (((decR b).1).length) oc28 (List.flatMap vl ((decR b).1)), .ow 31 3 oa23 (((decR (enc L)).1).length) oc23 (List.flatMap vl ((decR (enc L)).1)), .ow 5 1 oa20 ((enc L).length) oc20 (bv (enc L))] _) => ?_)
                  clear hS51o
                  refine hK _ _ ?_; clear hK K
                  refine l_e rfl (fun K hK => ?_)
                  have hcp53 := (hS52.owLen (i := 1) rfl).2.1
                  have hd53 := decR_len ((enc L) ++ [c])
                  refine e_call (by kernel_rfl) (dec_ok ((enc L) ++ [c]) hB52 (((enc L) ++ [c]).length) (by first | omega | (simp only [List.length_append, List.length_map, List.length_cons, List.length_nil, List.length_take, List.length_drop, List.length_set] <;> omega)) _ _ (by first | omega | (simp only [List.length_append, List.length_map, List.length_cons, List.length_nil, List.length_take, List.length_drop, List.length_set] <;> omega)) (by first | omega | (simp only [List.length_append, List.length_map, List.length_cons, List.length_nil, List.length_take, List.length_drop, List.length_set] <;> omega)) _ _ (Gle.refl _) (hS52.owG (i := 1) rfl)) rfl (after_N hS52 (fun v53 G53 w53 hv53 hS53 => ?_))
                  clear hS52
                  obtain ⟨oa53, oc53, rfl, rfl⟩ := hv53
                  have hS54 : St _ _ [.ow 31 3 oa53 (((decR ((enc L) ++ [c])).1).length) oc53 (List.flatMap vl ((decR ((enc L) ++ [c])).1)), .ow 5 1 (some ⟨b51, 0, none⟩) 1 1 (bv [c]), .ow 5 1 ad52 (((enc L) ++ [c]).length) cp52 (bv ((enc L) ++ [c])), .ow 31 3 oa43 (((decR ((enc L).take ((enc L).length - 1))).1).length) oc43 (List.flatMap vl ((decR ((enc L).take ((enc L).length - 1))).1)), .ow 5 1 oa34 ((enc ((decR b).1)).length) oc34 (bv (enc ((decR b).1))), .ow 31 3 oa28 (((decR b).1).length) oc28 (List.flatMap vl ((decR b).1)), .ow 31 3 oa23 (((decR (enc L)).1).length) oc23 (List.flatMap vl ((decR (enc L)).1)), .ow 5 1 oa20 ((enc L).length) oc20 (bv (enc L))] _ := hS53; clear hS53
                  refine hK _ _ ?_; clear hK K
                  refine l_q rfl rfl (q_move rfl) ?_
                  refine l_q rfl rfl (q_extract rfl rfl) ?_
                  refine l_q rfl rfl (q_extract rfl rfl) ?_
                  refine l_q rfl rfl (q_assignS rfl) ?_
                  refine l_q rfl rfl (q_assignI rfl) ?_
                  refine l_nil ?_
                  refine hK48 _ _ ?_
                  refine wp_seq_k (fun K55 hK55 => ?_)
                  refine wp_seq_k (fun K56 hK56 => ?_)
                  refine wp_region_lit ?_
                  refine l_q rfl rfl (q_moveI rfl) ?_
                  refine l_q rfl rfl (q_eql rfl rfl) ?_
                  refine l_q rfl rfl (q_moveB rfl) ?_
                  refine g_splitL (t := 105) rfl (fun hg57 => ?_) (fun hg57 => ?_)
                  ·
                    have hg57b := hg57
                    try simp only [decide_eq_true_eq, decide_eq_false_iff_not, Bool.not_eq_true', Bool.not_eq_false', Bool.and_eq_true, Bool.or_eq_true, Int.not_lt, Int.not_le, ne_eq, Decidable.not_not] at hg57
                    refine l_on rfl rfl hg57b ?_
                    refine l_q rfl rfl (q_moveS rfl) ?_
                    refine l_on rfl rfl hg57b ?_
                    refine l_q rfl rfl (q_lenSl (e := 31) rfl (by kernel_rfl)) ?_
                    refine l_on rfl rfl hg57b ?_
                    refine l_q rfl rfl (q_moveS rfl) ?_
                    refine l_on rfl rfl hg57b ?_
                    refine l_q rfl rfl (q_lenSl (e := 31) rfl (by kernel_rfl)) ?_
                    refine l_on rfl rfl hg57b ?_
                    refine l_q rfl rfl (q_leq rfl rfl) ?_
                    refine l_q rfl rfl (q_pickT rfl hg57b rfl) ?_
                    refine l_nil ?_
                    refine hK56 _ _ ?_
                    refine c_cond rfl (fun hc58 => ?_) (fun hc58 => ?_)
                    ·
                      have hc58b := hc58
                      try simp only [decide_eq_true_eq, decide_eq_false_iff_not, Bool.not_eq_true', Bool.not_eq_false', Bool.and_eq_true, Bool.or_eq_true, Int.not_lt, Int.not_le, ne_eq, Decidable.not_not] at hc58
                      exact absurd (back2 (c := c) hRL (by omega)) (by omega)
                    ·
                      have hc58b := hc58
                      try simp only [decide_eq_true_eq, decide_eq_false_iff_not, Bool.not_eq_true', Bool.not_eq_false', Bool.and_eq_true, Bool.or_eq_true, Int.not_lt, Int.not_le, ne_eq, Decidable.not_not] at hc58
                      refine wp_skip ?_
                      refine hK55 _ _ ?_
                      refine wp_seq_k (fun K59 hK59 => ?_)
                      refine wp_region_lit ?_
                      refine l_e rfl (fun K hK => ?_)
                      refine e_call (by kernel_rfl) (alive4_ok _) rfl (after_R hS54 (fun v60 w60 hv60 hS60 => ?_))
                      clear hS54
                      obtain rfl := hv60
                      refine hK _ _ ?_; clear hK K
                      refine l_q rfl rfl (q_moveB rfl) ?_
                      refine l_on rfl rfl rfl ?_
                      refine l_q rfl rfl (q_moveI rfl) ?_
                      refine l_on rfl rfl rfl ?_
                      refine l_q rfl rfl (q_eql rfl rfl) ?_
                      refine l_q rfl rfl (q_pickT rfl rfl rfl) ?_
                      refine l_q rfl rfl (q_moveB rfl) ?_
                      refine l_on rfl rfl (by decide) ?_
                      refine l_q rfl rfl (q_moveI rfl) ?_
                      refine l_on rfl rfl (by decide) ?_
                      refine l_q rfl rfl (q_eql rfl rfl) ?_
                      refine l_q rfl rfl (q_pickT rfl (by decide) rfl) ?_
                      refine l_q rfl rfl (q_moveB rfl) ?_
                      refine l_on rfl rfl (decide_eq_true (by rw [hdx])) ?_
                      refine l_q rfl rfl (q_moveB rfl) ?_
                      refine l_q rfl rfl (q_pickT rfl (decide_eq_true (by rw [hdx])) rfl) ?_
                      refine l_q rfl rfl (q_assignB rfl) ?_
                      refine l_nil ?_
                      refine hK59 _ _ ?_
                      refine wp_ret ?_
                      refine c_ret1 rfl rfl ?_
                      exact ⟨_, rfl, congrArg Value.bool (decide_eq_true (by rw [hdx])), hS60.drop⟩
                  ·
                    have hg57b := hg57
                    try simp only [decide_eq_true_eq, decide_eq_false_iff_not, Bool.not_eq_true', Bool.not_eq_false', Bool.and_eq_true, Bool.or_eq_true, Int.not_lt, Int.not_le, ne_eq, Decidable.not_not] at hg57
                    refine l_off rfl rfl rfl hg57b ?_
                    refine l_off rfl rfl rfl hg57b ?_
                    refine l_off rfl rfl rfl hg57b ?_
                    refine l_off rfl rfl rfl hg57b ?_
                    refine l_off rfl rfl rfl hg57b ?_
                    refine l_q rfl rfl (q_pickF rfl hg57b rfl) ?_
                    refine l_nil ?_
                    refine hK56 _ _ ?_
                    refine c_condF rfl rfl ?_
                    refine wp_skip ?_
                    refine hK55 _ _ ?_
                    refine wp_seq_k (fun K63 hK63 => ?_)
                    refine wp_region_lit ?_
                    refine l_e rfl (fun K hK => ?_)
                    refine e_call (by kernel_rfl) (alive4_ok _) rfl (after_R hS54 (fun v64 w64 hv64 hS64 => ?_))
                    clear hS54
                    obtain rfl := hv64
                    refine hK _ _ ?_; clear hK K
                    refine l_q rfl rfl (q_moveB rfl) ?_
                    refine l_on rfl rfl rfl ?_
                    refine l_q rfl rfl (q_moveI rfl) ?_
                    refine l_on rfl rfl rfl ?_
                    refine l_q rfl rfl (q_eql rfl rfl) ?_
                    refine l_q rfl rfl (q_pickT rfl rfl rfl) ?_
                    refine l_q rfl rfl (q_moveB rfl) ?_
                    refine l_on rfl rfl (by decide) ?_
                    refine l_q rfl rfl (q_moveI rfl) ?_
                    refine l_on rfl rfl (by decide) ?_
                    refine l_q rfl rfl (q_eql rfl rfl) ?_
                    refine l_q rfl rfl (q_pickT rfl (by decide) rfl) ?_
                    refine l_q rfl rfl (q_moveB rfl) ?_
                    refine l_on rfl rfl (decide_eq_true (by rw [hdx])) ?_
                    refine l_q rfl rfl (q_moveB rfl) ?_
                    refine l_q rfl rfl (q_pickT rfl (decide_eq_true (by rw [hdx])) rfl) ?_
                    refine l_q rfl rfl (q_assignB rfl) ?_
                    refine l_nil ?_
                    refine hK63 _ _ ?_
                    refine wp_ret ?_
                    refine c_ret1 rfl rfl ?_
                    exact ⟨_, rfl, congrArg Value.bool (decide_eq_true (by rw [hdx])), hS64.drop⟩
              ·
                have hg46b := hg46
                try simp only [decide_eq_true_eq, decide_eq_false_iff_not, Bool.not_eq_true', Bool.not_eq_false', Bool.and_eq_true, Bool.or_eq_true, Int.not_lt, Int.not_le, ne_eq, Decidable.not_not] at hg46
                refine l_off rfl rfl rfl hg46b ?_
                refine l_off rfl rfl rfl hg46b ?_
                refine l_off rfl rfl rfl hg46b ?_
                refine l_off rfl rfl rfl hg46b ?_
                refine l_off rfl rfl rfl hg46b ?_
                refine l_q rfl rfl (q_pickF rfl hg46b rfl) ?_
                refine l_nil ?_
                refine hK45 _ _ ?_
                refine c_condF rfl rfl ?_
                refine wp_skip ?_
                refine hK38 _ _ ?_
                refine wp_seq_k (fun K67 hK67 => ?_)
                refine wp_region_lit ?_
                refine l_e rfl (fun K hK => ?_)
                refine e_buildSlice1 (e := 5) (zv := .int .u8 0) (xs := []) hS44 (by kernel_rfl) (by kernel_rfl) (by kernel_rfl) rfl rfl rfl rfl ((by intro u hu; cases hu)) rfl (fun b68 w68 (hS68 : St _ _ [.blk b68 (.cells #[] 5), .ow 31 3 oa43 (((decR ((enc L).take ((enc L).length - 1))).1).length) oc43 (List.flatMap vl ((decR ((enc L).take ((enc L).length - 1))).1)), .ow 5 1 oa34 ((enc ((decR b).1)).length) oc34 (bv (enc ((decR b).1))), .ow 31 3 oa28 (((decR b).1).length) oc28 (List.flatMap vl ((decR b).1)), .ow 31 3 oa23 (((decR (enc L)).1).length) oc23 (List.flatMap vl ((decR (enc L)).1)), .ow 5 1 oa20 ((enc L).length) oc20 (bv (enc L))] _) => ?_)
                clear hS44
                have hS68o : St _ _ [.ow 5 1 (some ⟨b68, 0, none⟩) 0 0 (bv []), .ow 31 3 oa43 (((decR ((enc L).take ((enc L).length - 1))).1).length) oc43 (List.flatMap vl ((decR ((enc L).take ((enc L).length - 1))).1)), .ow 5 1 oa34 ((enc ((decR b).1)).length) oc34 (bv (enc ((decR b).1))), .ow 31 3 oa28 (((decR b).1).length) oc28 (List.flatMap vl ((decR b).1)), .ow 31 3 oa23 (((decR (enc L)).1).length) oc23 (List.flatMap vl ((decR (enc L)).1)), .ow 5 1 oa20 ((enc L).length) oc20 (bv (enc L))] _ := hS68.blkOw' (i := 0) (m := 0) (size := 1) (xs := bv []) rfl rfl rfl (by decide); clear hS68
                refine hK _ _ ?_; clear hK K
                refine l_q rfl rfl (q_moveS rfl) ?_
                refine l_e rfl (fun K hK => ?_)
                refine e_app (e := 5) (size := 1) (bytes := 1) (i := 0) (m' := (enc L).length) (by kernel_rfl) hS68o rfl rfl rfl (SlG.src (e := 5) (by kernel_rfl) (hS68o.owG (i := 5) rfl) (by first | (simp only [List.length_append, List.length_map, List.length_cons, List.length_nil, List.length_take, List.length_drop, List.length_set, Nat.mul_one]; done) | (simp only [List.length_append, List.length_map, List.length_cons, List.length_nil, List.length_take, List.length_drop, List.length_set]; omega) | rfl | (simp; done)) (by decide) (bv_one _)) (by first | omega | (simp only [List.length_append, List.length_map, List.length_cons, List.length_nil, List.length_take, List.length_drop, List.length_set] <;> omega) | (simp; done)) rfl (by first | omega | (simp only [maxLen, List.length_append, List.length_map, List.length_cons, List.length_nil, List.length_take, List.length_drop, List.length_set] <;> omega) | (simp only [maxLen]; omega)) (by first | omega | (simp only [List.length_append, List.length_map, List.length_cons, List.length_nil, List.length_take, List.length_drop, List.length_set] <;> omega)) (fun ad69 cp69 w69 (hS69 : St _ _ [.ow 5 1 ad69 ((enc L).length) cp69 (bv (enc L)), .ow 31 3 oa43 (((decR ((enc L).take ((enc L).length - 1))).1).length) oc43 (List.flatMap vl ((decR ((enc L).take ((enc L).length - 1))).1)), .ow 5 1 oa34 ((enc ((decR b).1)).length) oc34 (bv (enc ((decR b).1))), .ow 31 3 oa28 (((decR b).1).length) oc28 (List.flatMap vl ((decR b).1)), .ow 31 3 oa23 (((decR (enc L)).1).length) oc23 (List.flatMap vl ((decR (enc L)).1)), .ow 5 1 oa20 ((enc L).length) oc20 (bv (enc L))] _) => ?_)
                clear hS68o
                refine hK _ _ ?_; clear hK K
                refine l_q rfl rfl (q_moveI rfl) ?_
                refine l_e rfl (fun K hK => ?_)
                refine e_buildSlice1 (e := 5) (zv := .int .u8 0) (xs := [.tmp 97]) hS69 (by kernel_rfl) (by kernel_rfl) (by kernel_rfl) rfl rfl rfl rfl (allone (by repeat' (first | exact trivial | refine ⟨by first | rfl | assumption, ?_⟩))) rfl (fun b70 w70 (hS70 : St _ _ [.blk b70 (.cells #[.int .u8 ((c : Nat) : Int)] 5), .ow 5 1 ad69 ((enc L).length) cp69 (bv (enc L)), .ow 31 3 oa43 (((decR ((enc L).take ((enc L).length - 1))).1).length) oc43 (List.flatMap vl ((decR ((enc L).take ((enc L).length - 1))).1)), .ow 5 1 oa34 ((enc ((decR b).1)).length) oc34 (bv (enc ((decR b).1))), .ow 31 3 oa28 (((decR b).1).length) oc28 (List.flatMap vl ((decR b).1)), .ow 31 3 oa23 (((decR (enc L)).1).length) oc23 (List.flatMap vl ((decR (enc L)).1)), .ow 5 1 oa20 ((enc L).length) oc20 (bv (enc L))] _) => ?_)
                clear hS69
                have hS70o : St _ _ [.ow 5 1 (some ⟨b70, 0, none⟩) 1 1 (bv [c]), .ow 5 1 ad69 ((enc L).length) cp69 (bv (enc L)), .ow 31 3 oa43 (((decR ((enc L).take ((enc L).length - 1))).1).length) oc43 (List.flatMap vl ((decR ((enc L).take ((enc L).length - 1))).1)), .ow 5 1 oa34 ((enc ((decR b).1)).length) oc34 (bv (enc ((decR b).1))), .ow 31 3 oa28 (((decR b).1).length) oc28 (List.flatMap vl ((decR b).1)), .ow 31 3 oa23 (((decR (enc L)).1).length) oc23 (List.flatMap vl ((decR (enc L)).1)), .ow 5 1 oa20 ((enc L).length) oc20 (bv (enc L))] _ := hS70.blkOw' (i := 0) (m := 1) (size := 1) (xs := bv [c]) rfl rfl rfl (by decide); clear hS70
                refine hK _ _ ?_; clear hK K
                refine l_e rfl (fun K hK => ?_)
                have hB71 : Bytes ((enc L) ++ [c]) := Bytes.app (enc_bytes hRL.1) (fun x hx => by rw [List.mem_singleton] at hx; subst hx; exact hc)
                refine e_app (e := 5) (size := 1) (bytes := 1) (i := 1) (m' := ((enc L) ++ [c]).length) (by kernel_rfl) hS70o rfl rfl rfl (SlG.src (e := 5) (by kernel_rfl) (hS70o.owG (i := 0) rfl) (by first | (simp only [List.length_append, List.length_map, List.length_cons, List.length_nil, List.length_take, List.length_drop, List.length_set, Nat.mul_one]; done) | (simp only [List.length_append, List.length_map, List.length_cons, List.length_nil, List.length_take, List.length_drop, List.length_set]; omega) | rfl | (simp; done)) (by decide) (bv_one _)) (by first | omega | (simp only [List.length_append, List.length_map, List.length_cons, List.length_nil, List.length_take, List.length_drop, List.length_set] <;> omega) | (simp; done)) bv_app (by first | omega | (simp only [maxLen, List.length_append, List.length_map, List.length_cons, List.length_nil, List.length_take, List.length_drop, List.length_set] <;> omega) | (simp only [maxLen]; omega)) (by first | omega | (simp only [List.length_append, List.length_map, List.length_cons, List.length_nil, List.length_take, List.length_drop, List.length_set] <;> omega)) (fun ad71 cp71 w71 (hS71 : St _ _ [.ow 5 1 (some ⟨b70, 0, none⟩) 1 1 (bv [c]), .ow 5 1 ad71 (((enc L) ++ [c]).length) cp71 (bv ((enc L) ++ [c])), .ow 31 3 oa43 (((decR ((enc L).take ((enc L).length - 1))).1).length) oc43 (List.flatMap vl ((decR ((enc L).take ((enc L).length - 1))).1)), .ow 5 1 oa34 ((enc ((decR b).1)).length) oc34 (bv (enc ((decR b).1))), .ow 31 3 oa28 (((decR b).1).length) oc28 (List.flatMap vl ((decR b).1)), .ow 31 3 oa23 (((decR (enc L)).1).length) oc23 (List.flatMap vl ((decR (enc L)).1)), .ow 5 1 oa20 ((enc L).length) oc20 (bv (enc L))] _) => ?_)
                clear hS70o
                refine hK _ _ ?_; clear hK K
                refine l_e rfl (fun K hK => ?_)
                have hcp72 := (hS71.owLen (i := 1) rfl).2.1
                have hd72 := decR_len ((enc L) ++ [c])
                refine e_call (by kernel_rfl) (dec_ok ((enc L) ++ [c]) hB71 (((enc L) ++ [c]).length) (by first | omega | (simp only [List.length_append, List.length_map, List.length_cons, List.length_nil, List.length_take, List.length_drop, List.length_set] <;> omega)) _ _ (by first | omega | (simp only [List.length_append, List.length_map, List.length_cons, List.length_nil, List.length_take, List.length_drop, List.length_set] <;> omega)) (by first | omega | (simp only [List.length_append, List.length_map, List.length_cons, List.length_nil, List.length_take, List.length_drop, List.length_set] <;> omega)) _ _ (Gle.refl _) (hS71.owG (i := 1) rfl)) rfl (after_N hS71 (fun v72 G72 w72 hv72 hS72 => ?_))
                clear hS71
                obtain ⟨oa72, oc72, rfl, rfl⟩ := hv72
                have hS73 : St _ _ [.ow 31 3 oa72 (((decR ((enc L) ++ [c])).1).length) oc72 (List.flatMap vl ((decR ((enc L) ++ [c])).1)), .ow 5 1 (some ⟨b70, 0, none⟩) 1 1 (bv [c]), .ow 5 1 ad71 (((enc L) ++ [c]).length) cp71 (bv ((enc L) ++ [c])), .ow 31 3 oa43 (((decR ((enc L).take ((enc L).length - 1))).1).length) oc43 (List.flatMap vl ((decR ((enc L).take ((enc L).length - 1))).1)), .ow 5 1 oa34 ((enc ((decR b).1)).length) oc34 (bv (enc ((decR b).1))), .ow 31 3 oa28 (((decR b).1).length) oc28 (List.flatMap vl ((decR b).1)), .ow 31 3 oa23 (((decR (enc L)).1).length) oc23 (List.flatMap vl ((decR (enc L)).1)), .ow 5 1 oa20 ((enc L).length) oc20 (bv (enc L))] _ := hS72; clear hS72
                refine hK _ _ ?_; clear hK K
                refine l_q rfl rfl (q_move rfl) ?_
                refine l_q rfl rfl (q_extract rfl rfl) ?_
                refine l_q rfl rfl (q_extract rfl rfl) ?_
                refine l_q rfl rfl (q_assignS rfl) ?_
                refine l_q rfl rfl (q_assignI rfl) ?_
                refine l_nil ?_
                refine hK67 _ _ ?_
                refine wp_seq_k (fun K74 hK74 => ?_)
                refine wp_seq_k (fun K75 hK75 => ?_)
                refine wp_region_lit ?_
                refine l_q rfl rfl (q_moveI rfl) ?_
                refine l_q rfl rfl (q_eql rfl rfl) ?_
                refine l_q rfl rfl (q_moveB rfl) ?_
                refine g_splitL (t := 105) rfl (fun hg76 => ?_) (fun hg76 => ?_)
                ·
                  have hg76b := hg76
                  try simp only [decide_eq_true_eq, decide_eq_false_iff_not, Bool.not_eq_true', Bool.not_eq_false', Bool.and_eq_true, Bool.or_eq_true, Int.not_lt, Int.not_le, ne_eq, Decidable.not_not] at hg76
                  refine l_on rfl rfl hg76b ?_
                  refine l_q rfl rfl (q_moveS rfl) ?_
                  refine l_on rfl rfl hg76b ?_
                  refine l_q rfl rfl (q_lenSl (e := 31) rfl (by kernel_rfl)) ?_
                  refine l_on rfl rfl hg76b ?_
                  refine l_q rfl rfl (q_moveS rfl) ?_
                  refine l_on rfl rfl hg76b ?_
                  refine l_q rfl rfl (q_lenSl (e := 31) rfl (by kernel_rfl)) ?_
                  refine l_on rfl rfl hg76b ?_
                  refine l_q rfl rfl (q_leq rfl rfl) ?_
                  refine l_q rfl rfl (q_pickT rfl hg76b rfl) ?_
                  refine l_nil ?_
                  refine hK75 _ _ ?_
                  refine c_cond rfl (fun hc77 => ?_) (fun hc77 => ?_)
                  ·
                    have hc77b := hc77
                    try simp only [decide_eq_true_eq, decide_eq_false_iff_not, Bool.not_eq_true', Bool.not_eq_false', Bool.and_eq_true, Bool.or_eq_true, Int.not_lt, Int.not_le, ne_eq, Decidable.not_not] at hc77
                    exact absurd (back2 (c := c) hRL (by omega)) (by omega)
                  ·
                    have hc77b := hc77
                    try simp only [decide_eq_true_eq, decide_eq_false_iff_not, Bool.not_eq_true', Bool.not_eq_false', Bool.and_eq_true, Bool.or_eq_true, Int.not_lt, Int.not_le, ne_eq, Decidable.not_not] at hc77
                    refine wp_skip ?_
                    refine hK74 _ _ ?_
                    refine wp_seq_k (fun K78 hK78 => ?_)
                    refine wp_region_lit ?_
                    refine l_e rfl (fun K hK => ?_)
                    refine e_call (by kernel_rfl) (alive4_ok _) rfl (after_R hS73 (fun v79 w79 hv79 hS79 => ?_))
                    clear hS73
                    obtain rfl := hv79
                    refine hK _ _ ?_; clear hK K
                    refine l_q rfl rfl (q_moveB rfl) ?_
                    refine l_on rfl rfl rfl ?_
                    refine l_q rfl rfl (q_moveI rfl) ?_
                    refine l_on rfl rfl rfl ?_
                    refine l_q rfl rfl (q_eql rfl rfl) ?_
                    refine l_q rfl rfl (q_pickT rfl rfl rfl) ?_
                    refine l_q rfl rfl (q_moveB rfl) ?_
                    refine l_on rfl rfl (by decide) ?_
                    refine l_q rfl rfl (q_moveI rfl) ?_
                    refine l_on rfl rfl (by decide) ?_
                    refine l_q rfl rfl (q_eql rfl rfl) ?_
                    refine l_q rfl rfl (q_pickT rfl (by decide) rfl) ?_
                    refine l_q rfl rfl (q_moveB rfl) ?_
                    refine l_on rfl rfl (decide_eq_true (by rw [hdx])) ?_
                    refine l_q rfl rfl (q_moveB rfl) ?_
                    refine l_q rfl rfl (q_pickT rfl (decide_eq_true (by rw [hdx])) rfl) ?_
                    refine l_q rfl rfl (q_assignB rfl) ?_
                    refine l_nil ?_
                    refine hK78 _ _ ?_
                    refine wp_ret ?_
                    refine c_ret1 rfl rfl ?_
                    exact ⟨_, rfl, congrArg Value.bool (decide_eq_true (by rw [hdx])), hS79.drop⟩
                ·
                  have hg76b := hg76
                  try simp only [decide_eq_true_eq, decide_eq_false_iff_not, Bool.not_eq_true', Bool.not_eq_false', Bool.and_eq_true, Bool.or_eq_true, Int.not_lt, Int.not_le, ne_eq, Decidable.not_not] at hg76
                  refine l_off rfl rfl rfl hg76b ?_
                  refine l_off rfl rfl rfl hg76b ?_
                  refine l_off rfl rfl rfl hg76b ?_
                  refine l_off rfl rfl rfl hg76b ?_
                  refine l_off rfl rfl rfl hg76b ?_
                  refine l_q rfl rfl (q_pickF rfl hg76b rfl) ?_
                  refine l_nil ?_
                  refine hK75 _ _ ?_
                  refine c_condF rfl rfl ?_
                  refine wp_skip ?_
                  refine hK74 _ _ ?_
                  refine wp_seq_k (fun K82 hK82 => ?_)
                  refine wp_region_lit ?_
                  refine l_e rfl (fun K hK => ?_)
                  refine e_call (by kernel_rfl) (alive4_ok _) rfl (after_R hS73 (fun v83 w83 hv83 hS83 => ?_))
                  clear hS73
                  obtain rfl := hv83
                  refine hK _ _ ?_; clear hK K
                  refine l_q rfl rfl (q_moveB rfl) ?_
                  refine l_on rfl rfl rfl ?_
                  refine l_q rfl rfl (q_moveI rfl) ?_
                  refine l_on rfl rfl rfl ?_
                  refine l_q rfl rfl (q_eql rfl rfl) ?_
                  refine l_q rfl rfl (q_pickT rfl rfl rfl) ?_
                  refine l_q rfl rfl (q_moveB rfl) ?_
                  refine l_on rfl rfl (by decide) ?_
                  refine l_q rfl rfl (q_moveI rfl) ?_
                  refine l_on rfl rfl (by decide) ?_
                  refine l_q rfl rfl (q_eql rfl rfl) ?_
                  refine l_q rfl rfl (q_pickT rfl (by decide) rfl) ?_
                  refine l_q rfl rfl (q_moveB rfl) ?_
                  refine l_on rfl rfl (decide_eq_true (by rw [hdx])) ?_
                  refine l_q rfl rfl (q_moveB rfl) ?_
                  refine l_q rfl rfl (q_pickT rfl (decide_eq_true (by rw [hdx])) rfl) ?_
                  refine l_q rfl rfl (q_assignB rfl) ?_
                  refine l_nil ?_
                  refine hK82 _ _ ?_
                  refine wp_ret ?_
                  refine c_ret1 rfl rfl ?_
                  exact ⟨_, rfl, congrArg Value.bool (decide_eq_true (by rw [hdx])), hS83.drop⟩
            ·
              have hc40b := hc40
              try simp only [decide_eq_true_eq, decide_eq_false_iff_not, Bool.not_eq_true', Bool.not_eq_false', Bool.and_eq_true, Bool.or_eq_true, Int.not_lt, Int.not_le, ne_eq, Decidable.not_not] at hc40
              refine wp_skip ?_
              refine hK38 _ _ ?_
              refine wp_seq_k (fun K85 hK85 => ?_)
              refine wp_region_lit ?_
              refine l_e rfl (fun K hK => ?_)
              refine e_buildSlice1 (e := 5) (zv := .int .u8 0) (xs := []) hS35 (by kernel_rfl) (by kernel_rfl) (by kernel_rfl) rfl rfl rfl rfl ((by intro u hu; cases hu)) rfl (fun b86 w86 (hS86 : St _ _ [.blk b86 (.cells #[] 5), .ow 5 1 oa34 ((enc ((decR b).1)).length) oc34 (bv (enc ((decR b).1))), .ow 31 3 oa28 (((decR b).1).length) oc28 (List.flatMap vl ((decR b).1)), .ow 31 3 oa23 (((decR (enc L)).1).length) oc23 (List.flatMap vl ((decR (enc L)).1)), .ow 5 1 oa20 ((enc L).length) oc20 (bv (enc L))] _) => ?_)
              clear hS35
              have hS86o : St _ _ [.ow 5 1 (some ⟨b86, 0, none⟩) 0 0 (bv []), .ow 5 1 oa34 ((enc ((decR b).1)).length) oc34 (bv (enc ((decR b).1))), .ow 31 3 oa28 (((decR b).1).length) oc28 (List.flatMap vl ((decR b).1)), .ow 31 3 oa23 (((decR (enc L)).1).length) oc23 (List.flatMap vl ((decR (enc L)).1)), .ow 5 1 oa20 ((enc L).length) oc20 (bv (enc L))] _ := hS86.blkOw' (i := 0) (m := 0) (size := 1) (xs := bv []) rfl rfl rfl (by decide); clear hS86
              refine hK _ _ ?_; clear hK K
              refine l_q rfl rfl (q_moveS rfl) ?_
              refine l_e rfl (fun K hK => ?_)
              refine e_app (e := 5) (size := 1) (bytes := 1) (i := 0) (m' := (enc L).length) (by kernel_rfl) hS86o rfl rfl rfl (SlG.src (e := 5) (by kernel_rfl) (hS86o.owG (i := 4) rfl) (by first | (simp only [List.length_append, List.length_map, List.length_cons, List.length_nil, List.length_take, List.length_drop, List.length_set, Nat.mul_one]; done) | (simp only [List.length_append, List.length_map, List.length_cons, List.length_nil, List.length_take, List.length_drop, List.length_set]; omega) | rfl | (simp; done)) (by decide) (bv_one _)) (by first | omega | (simp only [List.length_append, List.length_map, List.length_cons, List.length_nil, List.length_take, List.length_drop, List.length_set] <;> omega) | (simp; done)) rfl (by first | omega | (simp only [maxLen, List.length_append, List.length_map, List.length_cons, List.length_nil, List.length_take, List.length_drop, List.length_set] <;> omega) | (simp only [maxLen]; omega)) (by first | omega | (simp only [List.length_append, List.length_map, List.length_cons, List.length_nil, List.length_take, List.length_drop, List.length_set] <;> omega)) (fun ad87 cp87 w87 (hS87 : St _ _ [.ow 5 1 ad87 ((enc L).length) cp87 (bv (enc L)), .ow 5 1 oa34 ((enc ((decR b).1)).length) oc34 (bv (enc ((decR b).1))), .ow 31 3 oa28 (((decR b).1).length) oc28 (List.flatMap vl ((decR b).1)), .ow 31 3 oa23 (((decR (enc L)).1).length) oc23 (List.flatMap vl ((decR (enc L)).1)), .ow 5 1 oa20 ((enc L).length) oc20 (bv (enc L))] _) => ?_)
              clear hS86o
              refine hK _ _ ?_; clear hK K
              refine l_q rfl rfl (q_moveI rfl) ?_
              refine l_e rfl (fun K hK => ?_)
              refine e_buildSlice1 (e := 5) (zv := .int .u8 0) (xs := [.tmp 97]) hS87 (by kernel_rfl) (by kernel_rfl) (by kernel_rfl) rfl rfl rfl rfl (allone (by repeat' (first | exact trivial | refine ⟨by first | rfl | assumption, ?_⟩))) rfl (fun b88 w88 (hS88 : St _ _ [.blk b88 (.cells #[.int .u8 ((c : Nat) : Int)] 5), .ow 5 1 ad87 ((enc L).length) cp87 (bv (enc L)), .ow 5 1 oa34 ((enc ((decR b).1)).length) oc34 (bv (enc ((decR b).1))), .ow 31 3 oa28 (((decR b).1).length) oc28 (List.flatMap vl ((decR b).1)), .ow 31 3 oa23 (((decR (enc L)).1).length) oc23 (List.flatMap vl ((decR (enc L)).1)), .ow 5 1 oa20 ((enc L).length) oc20 (bv (enc L))] _) => ?_)
              clear hS87
              have hS88o : St _ _ [.ow 5 1 (some ⟨b88, 0, none⟩) 1 1 (bv [c]), .ow 5 1 ad87 ((enc L).length) cp87 (bv (enc L)), .ow 5 1 oa34 ((enc ((decR b).1)).length) oc34 (bv (enc ((decR b).1))), .ow 31 3 oa28 (((decR b).1).length) oc28 (List.flatMap vl ((decR b).1)), .ow 31 3 oa23 (((decR (enc L)).1).length) oc23 (List.flatMap vl ((decR (enc L)).1)), .ow 5 1 oa20 ((enc L).length) oc20 (bv (enc L))] _ := hS88.blkOw' (i := 0) (m := 1) (size := 1) (xs := bv [c]) rfl rfl rfl (by decide); clear hS88
              refine hK _ _ ?_; clear hK K
              refine l_e rfl (fun K hK => ?_)
              have hB89 : Bytes ((enc L) ++ [c]) := Bytes.app (enc_bytes hRL.1) (fun x hx => by rw [List.mem_singleton] at hx; subst hx; exact hc)
              refine e_app (e := 5) (size := 1) (bytes := 1) (i := 1) (m' := ((enc L) ++ [c]).length) (by kernel_rfl) hS88o rfl rfl rfl (SlG.src (e := 5) (by kernel_rfl) (hS88o.owG (i := 0) rfl) (by first | (simp only [List.length_append, List.length_map, List.length_cons, List.length_nil, List.length_take, List.length_drop, List.length_set, Nat.mul_one]; done) | (simp only [List.length_append, List.length_map, List.length_cons, List.length_nil, List.length_take, List.length_drop, List.length_set]; omega) | rfl | (simp; done)) (by decide) (bv_one _)) (by first | omega | (simp only [List.length_append, List.length_map, List.length_cons, List.length_nil, List.length_take, List.length_drop, List.length_set] <;> omega) | (simp; done)) bv_app (by first | omega | (simp only [maxLen, List.length_append, List.length_map, List.length_cons, List.length_nil, List.length_take, List.length_drop, List.length_set] <;> omega) | (simp only [maxLen]; omega)) (by first | omega | (simp only [List.length_append, List.length_map, List.length_cons, List.length_nil, List.length_take, List.length_drop, List.length_set] <;> omega)) (fun ad89 cp89 w89 (hS89 : St _ _ [.ow 5 1 (some ⟨b88, 0, none⟩) 1 1 (bv [c]), .ow 5 1 ad89 (((enc L) ++ [c]).length) cp89 (bv ((enc L) ++ [c])), .ow 5 1 oa34 ((enc ((decR b).1)).length) oc34 (bv (enc ((decR b).1))), .ow 31 3 oa28 (((decR b).1).length) oc28 (List.flatMap vl ((decR b).1)), .ow 31 3 oa23 (((decR (enc L)).1).length) oc23 (List.flatMap vl ((decR (enc L)).1)), .ow 5 1 oa20 ((enc L).length) oc20 (bv (enc L))] _) => ?_)
              clear hS88o
              refine hK _ _ ?_; clear hK K
              refine l_e rfl (fun K hK => ?_)
              have hcp90 := (hS89.owLen (i := 1) rfl).2.1
              have hd90 := decR_len ((enc L) ++ [c])
              refine e_call (by kernel_rfl) (dec_ok ((enc L) ++ [c]) hB89 (((enc L) ++ [c]).length) (by first | omega | (simp only [List.length_append, List.length_map, List.length_cons, List.length_nil, List.length_take, List.length_drop, List.length_set] <;> omega)) _ _ (by first | omega | (simp only [List.length_append, List.length_map, List.length_cons, List.length_nil, List.length_take, List.length_drop, List.length_set] <;> omega)) (by first | omega | (simp only [List.length_append, List.length_map, List.length_cons, List.length_nil, List.length_take, List.length_drop, List.length_set] <;> omega)) _ _ (Gle.refl _) (hS89.owG (i := 1) rfl)) rfl (after_N hS89 (fun v90 G90 w90 hv90 hS90 => ?_))
              clear hS89
              obtain ⟨oa90, oc90, rfl, rfl⟩ := hv90
              have hS91 : St _ _ [.ow 31 3 oa90 (((decR ((enc L) ++ [c])).1).length) oc90 (List.flatMap vl ((decR ((enc L) ++ [c])).1)), .ow 5 1 (some ⟨b88, 0, none⟩) 1 1 (bv [c]), .ow 5 1 ad89 (((enc L) ++ [c]).length) cp89 (bv ((enc L) ++ [c])), .ow 5 1 oa34 ((enc ((decR b).1)).length) oc34 (bv (enc ((decR b).1))), .ow 31 3 oa28 (((decR b).1).length) oc28 (List.flatMap vl ((decR b).1)), .ow 31 3 oa23 (((decR (enc L)).1).length) oc23 (List.flatMap vl ((decR (enc L)).1)), .ow 5 1 oa20 ((enc L).length) oc20 (bv (enc L))] _ := hS90; clear hS90
              refine hK _ _ ?_; clear hK K
              refine l_q rfl rfl (q_move rfl) ?_
              refine l_q rfl rfl (q_extract rfl rfl) ?_
              refine l_q rfl rfl (q_extract rfl rfl) ?_
              refine l_q rfl rfl (q_assignS rfl) ?_
              refine l_q rfl rfl (q_assignI rfl) ?_
              refine l_nil ?_
              refine hK85 _ _ ?_
              refine wp_seq_k (fun K92 hK92 => ?_)
              refine wp_seq_k (fun K93 hK93 => ?_)
              refine wp_region_lit ?_
              refine l_q rfl rfl (q_moveI rfl) ?_
              refine l_q rfl rfl (q_eql rfl rfl) ?_
              refine l_q rfl rfl (q_moveB rfl) ?_
              refine g_splitL (t := 105) rfl (fun hg94 => ?_) (fun hg94 => ?_)
              ·
                have hg94b := hg94
                try simp only [decide_eq_true_eq, decide_eq_false_iff_not, Bool.not_eq_true', Bool.not_eq_false', Bool.and_eq_true, Bool.or_eq_true, Int.not_lt, Int.not_le, ne_eq, Decidable.not_not] at hg94
                refine l_on rfl rfl hg94b ?_
                refine l_q rfl rfl (q_moveS rfl) ?_
                refine l_on rfl rfl hg94b ?_
                refine l_q rfl rfl (q_lenSl (e := 31) rfl (by kernel_rfl)) ?_
                refine l_on rfl rfl hg94b ?_
                refine l_q rfl rfl (q_moveS rfl) ?_
                refine l_on rfl rfl hg94b ?_
                refine l_q rfl rfl (q_lenSl (e := 31) rfl (by kernel_rfl)) ?_
                refine l_on rfl rfl hg94b ?_
                refine l_q rfl rfl (q_leq rfl rfl) ?_
                refine l_q rfl rfl (q_pickT rfl hg94b rfl) ?_
                refine l_nil ?_
                refine hK93 _ _ ?_
                refine c_cond rfl (fun hc95 => ?_) (fun hc95 => ?_)
                ·
                  have hc95b := hc95
                  try simp only [decide_eq_true_eq, decide_eq_false_iff_not, Bool.not_eq_true', Bool.not_eq_false', Bool.and_eq_true, Bool.or_eq_true, Int.not_lt, Int.not_le, ne_eq, Decidable.not_not] at hc95
                  exact absurd (back2 (c := c) hRL (by omega)) (by omega)
                ·
                  have hc95b := hc95
                  try simp only [decide_eq_true_eq, decide_eq_false_iff_not, Bool.not_eq_true', Bool.not_eq_false', Bool.and_eq_true, Bool.or_eq_true, Int.not_lt, Int.not_le, ne_eq, Decidable.not_not] at hc95
                  refine wp_skip ?_
                  refine hK92 _ _ ?_
                  refine wp_seq_k (fun K96 hK96 => ?_)
                  refine wp_region_lit ?_
                  refine l_e rfl (fun K hK => ?_)
                  refine e_call (by kernel_rfl) (alive4_ok _) rfl (after_R hS91 (fun v97 w97 hv97 hS97 => ?_))
                  clear hS91
                  obtain rfl := hv97
                  refine hK _ _ ?_; clear hK K
                  refine l_q rfl rfl (q_moveB rfl) ?_
                  refine l_on rfl rfl rfl ?_
                  refine l_q rfl rfl (q_moveI rfl) ?_
                  refine l_on rfl rfl rfl ?_
                  refine l_q rfl rfl (q_eql rfl rfl) ?_
                  refine l_q rfl rfl (q_pickT rfl rfl rfl) ?_
                  refine l_q rfl rfl (q_moveB rfl) ?_
                  refine l_on rfl rfl (by decide) ?_
                  refine l_q rfl rfl (q_moveI rfl) ?_
                  refine l_on rfl rfl (by decide) ?_
                  refine l_q rfl rfl (q_eql rfl rfl) ?_
                  refine l_q rfl rfl (q_pickT rfl (by decide) rfl) ?_
                  refine l_q rfl rfl (q_moveB rfl) ?_
                  refine l_on rfl rfl (decide_eq_true (by rw [hdx])) ?_
                  refine l_q rfl rfl (q_moveB rfl) ?_
                  refine l_q rfl rfl (q_pickT rfl (decide_eq_true (by rw [hdx])) rfl) ?_
                  refine l_q rfl rfl (q_assignB rfl) ?_
                  refine l_nil ?_
                  refine hK96 _ _ ?_
                  refine wp_ret ?_
                  refine c_ret1 rfl rfl ?_
                  exact ⟨_, rfl, congrArg Value.bool (decide_eq_true (by rw [hdx])), hS97.drop⟩
              ·
                have hg94b := hg94
                try simp only [decide_eq_true_eq, decide_eq_false_iff_not, Bool.not_eq_true', Bool.not_eq_false', Bool.and_eq_true, Bool.or_eq_true, Int.not_lt, Int.not_le, ne_eq, Decidable.not_not] at hg94
                refine l_off rfl rfl rfl hg94b ?_
                refine l_off rfl rfl rfl hg94b ?_
                refine l_off rfl rfl rfl hg94b ?_
                refine l_off rfl rfl rfl hg94b ?_
                refine l_off rfl rfl rfl hg94b ?_
                refine l_q rfl rfl (q_pickF rfl hg94b rfl) ?_
                refine l_nil ?_
                refine hK93 _ _ ?_
                refine c_condF rfl rfl ?_
                refine wp_skip ?_
                refine hK92 _ _ ?_
                refine wp_seq_k (fun K100 hK100 => ?_)
                refine wp_region_lit ?_
                refine l_e rfl (fun K hK => ?_)
                refine e_call (by kernel_rfl) (alive4_ok _) rfl (after_R hS91 (fun v101 w101 hv101 hS101 => ?_))
                clear hS91
                obtain rfl := hv101
                refine hK _ _ ?_; clear hK K
                refine l_q rfl rfl (q_moveB rfl) ?_
                refine l_on rfl rfl rfl ?_
                refine l_q rfl rfl (q_moveI rfl) ?_
                refine l_on rfl rfl rfl ?_
                refine l_q rfl rfl (q_eql rfl rfl) ?_
                refine l_q rfl rfl (q_pickT rfl rfl rfl) ?_
                refine l_q rfl rfl (q_moveB rfl) ?_
                refine l_on rfl rfl (by decide) ?_
                refine l_q rfl rfl (q_moveI rfl) ?_
                refine l_on rfl rfl (by decide) ?_
                refine l_q rfl rfl (q_eql rfl rfl) ?_
                refine l_q rfl rfl (q_pickT rfl (by decide) rfl) ?_
                refine l_q rfl rfl (q_moveB rfl) ?_
                refine l_on rfl rfl (decide_eq_true (by rw [hdx])) ?_
                refine l_q rfl rfl (q_moveB rfl) ?_
                refine l_q rfl rfl (q_pickT rfl (decide_eq_true (by rw [hdx])) rfl) ?_
                refine l_q rfl rfl (q_assignB rfl) ?_
                refine l_nil ?_
                refine hK100 _ _ ?_
                refine wp_ret ?_
                refine c_ret1 rfl rfl ?_
                exact ⟨_, rfl, congrArg Value.bool (decide_eq_true (by rw [hdx])), hS101.drop⟩
        ·
          have hc32b := hc32
          try simp only [decide_eq_true_eq, decide_eq_false_iff_not, Bool.not_eq_true', Bool.not_eq_false', Bool.and_eq_true, Bool.or_eq_true, Int.not_lt, Int.not_le, ne_eq, Decidable.not_not] at hc32
          refine wp_skip ?_
          refine hK30 _ _ ?_
          refine wp_seq_k (fun K103 hK103 => ?_)
          refine wp_seq_k (fun K104 hK104 => ?_)
          refine wp_region_lit ?_
          refine l_q rfl rfl (q_moveS rfl) ?_
          refine l_q rfl rfl (q_lenSl (e := 5) rfl (by kernel_rfl)) ?_
          refine l_q rfl rfl (q_gtr rfl rfl) ?_
          refine l_nil ?_
          refine hK104 _ _ ?_
          refine c_cond rfl (fun hc105 => ?_) (fun hc105 => ?_)
          ·
            have hc105b := hc105
            try simp only [decide_eq_true_eq, decide_eq_false_iff_not, Bool.not_eq_true', Bool.not_eq_false', Bool.and_eq_true, Bool.or_eq_true, Int.not_lt, Int.not_le, ne_eq, Decidable.not_not] at hc105
            refine wp_seq_k (fun K106 hK106 => ?_)
            refine wp_region_lit ?_
            refine l_q rfl rfl (q_moveS rfl) ?_
            refine l_q rfl rfl (q_moveS rfl) ?_
            refine l_q rfl rfl (q_lenSl (e := 5) rfl (by kernel_rfl)) ?_
            refine l_q rfl rfl (q_subx rfl rfl (by first | decide | omega) (by first | decide | omega)) ?_
            have hcp107 := (hS29.owLen (i := 2) rfl).2.1
            refine l_q rfl rfl (q_sliceX (e := 5) (size := 1) (l := 0) (h := ((enc L).length - 1)) (m := oc20) (ad' := oa20) (len' := ((enc L).length - 1)) (cap' := oc20) rfl (by kernel_rfl) (by kernel_rfl) rfl ⟨_, int_nat (by first | rfl | omega) rfl⟩ rfl (by omega) (by first | omega | (simp only [List.length_append, List.length_map, List.length_cons, List.length_nil, List.length_take, List.length_drop, List.length_set] <;> omega)) (by first | omega | (simp only [List.length_append, List.length_map, List.length_cons, List.length_nil, List.length_take, List.length_drop, List.length_set] <;> omega)) rfl subS_zero (Nat.sub_zero _) (Nat.sub_zero _)) ?_
            refine l_e rfl (fun K hK => ?_)
            have hd108 := decR_len ((enc L).take ((enc L).length - 1))
            refine e_call (by kernel_rfl) (dec_ok ((enc L).take ((enc L).length - 1)) (Bytes.take (enc_bytes hRL.1)) ((enc L).length - 1) (by first | omega | (simp only [List.length_append, List.length_map, List.length_cons, List.length_nil, List.length_take, List.length_drop, List.length_set] <;> omega)) _ _ (by first | omega | (simp only [List.length_append, List.length_map, List.length_cons, List.length_nil, List.length_take, List.length_drop, List.length_set] <;> omega)) (by first | omega | (simp only [List.length_append, List.length_map, List.length_cons, List.length_nil, List.length_take, List.length_drop, List.length_set] <;> omega)) _ _ (Gle.refl _) ((fun q => (bv_takeG (n := ((enc L).length - 1)) q)) (hS29.owG (i := 2) rfl))) rfl (after_N hS29 (fun v108 G108 w108 hv108 hS108 => ?_))
            clear hS29
            obtain ⟨oa108, oc108, rfl, rfl⟩ := hv108
            have hS109 : St _ _ [.ow 31 3 oa108 (((decR ((enc L).take ((enc L).length - 1))).1).length) oc108 (List.flatMap vl ((decR ((enc L).take ((enc L).length - 1))).1)), .ow 31 3 oa28 (((decR b).1).length) oc28 (List.flatMap vl ((decR b).1)), .ow 31 3 oa23 (((decR (enc L)).1).length) oc23 (List.flatMap vl ((decR (enc L)).1)), .ow 5 1 oa20 ((enc L).length) oc20 (bv (enc L))] _ := hS108; clear hS108
            refine hK _ _ ?_; clear hK K
            refine l_q rfl rfl (q_move rfl) ?_
            refine l_q rfl rfl (q_extract rfl rfl) ?_
            refine l_q rfl rfl (q_extract rfl rfl) ?_
            refine l_q rfl rfl (q_assignS rfl) ?_
            refine l_q rfl rfl (q_assignI rfl) ?_
            refine l_nil ?_
            refine hK106 _ _ ?_
            refine wp_seq_k (fun K110 hK110 => ?_)
            refine wp_region_lit ?_
            refine l_q rfl rfl (q_moveI rfl) ?_
            refine l_q rfl rfl (q_eql rfl rfl) ?_
            refine l_q rfl rfl (q_moveB rfl) ?_
            refine g_splitL (t := 86) rfl (fun hg111 => ?_) (fun hg111 => ?_)
            ·
              have hg111b := hg111
              try simp only [decide_eq_true_eq, decide_eq_false_iff_not, Bool.not_eq_true', Bool.not_eq_false', Bool.and_eq_true, Bool.or_eq_true, Int.not_lt, Int.not_le, ne_eq, Decidable.not_not] at hg111
              refine l_on rfl rfl hg111b ?_
              refine l_q rfl rfl (q_moveS rfl) ?_
              refine l_on rfl rfl hg111b ?_
              refine l_q rfl rfl (q_lenSl (e := 31) rfl (by kernel_rfl)) ?_
              refine l_on rfl rfl hg111b ?_
              refine l_q rfl rfl (q_moveS rfl) ?_
              refine l_on rfl rfl hg111b ?_
              refine l_q rfl rfl (q_lenSl (e := 31) rfl (by kernel_rfl)) ?_
              refine l_on rfl rfl hg111b ?_
              refine l_q rfl rfl (q_geq rfl rfl) ?_
              refine l_q rfl rfl (q_pickT rfl hg111b rfl) ?_
              refine l_nil ?_
              refine hK110 _ _ ?_
              refine c_cond rfl (fun hc112 => ?_) (fun hc112 => ?_)
              ·
                have hc112b := hc112
                try simp only [decide_eq_true_eq, decide_eq_false_iff_not, Bool.not_eq_true', Bool.not_eq_false', Bool.and_eq_true, Bool.or_eq_true, Int.not_lt, Int.not_le, ne_eq, Decidable.not_not] at hc112
                exact absurd (back1 hRL (by omega) (by omega)) (by omega)
              ·
                have hc112b := hc112
                try simp only [decide_eq_true_eq, decide_eq_false_iff_not, Bool.not_eq_true', Bool.not_eq_false', Bool.and_eq_true, Bool.or_eq_true, Int.not_lt, Int.not_le, ne_eq, Decidable.not_not] at hc112
                refine wp_skip ?_
                refine hK103 _ _ ?_
                refine wp_seq_k (fun K113 hK113 => ?_)
                refine wp_region_lit ?_
                refine l_e rfl (fun K hK => ?_)
                refine e_buildSlice1 (e := 5) (zv := .int .u8 0) (xs := []) hS109 (by kernel_rfl) (by kernel_rfl) (by kernel_rfl) rfl rfl rfl rfl ((by intro u hu; cases hu)) rfl (fun b114 w114 (hS114 : St _ _ [.blk b114 (.cells #[] 5), .ow 31 3 oa108 (((decR ((enc L).take ((enc L).length - 1))).1).length) oc108 (List.flatMap vl ((decR ((enc L).take ((enc L).length - 1))).1)), .ow 31 3 oa28 (((decR b).1).length) oc28 (List.flatMap vl ((decR b).1)), .ow 31 3 oa23 (((decR (enc L)).1).length) oc23 (List.flatMap vl ((decR (enc L)).1)), .ow 5 1 oa20 ((enc L).length) oc20 (bv (enc L))] _) => ?_)
                clear hS109
                have hS114o : St _ _ [.ow 5 1 (some ⟨b114, 0, none⟩) 0 0 (bv []), .ow 31 3 oa108 (((decR ((enc L).take ((enc L).length - 1))).1).length) oc108 (List.flatMap vl ((decR ((enc L).take ((enc L).length - 1))).1)), .ow 31 3 oa28 (((decR b).1).length) oc28 (List.flatMap vl ((decR b).1)), .ow 31 3 oa23 (((decR (enc L)).1).length) oc23 (List.flatMap vl ((decR (enc L)).1)), .ow 5 1 oa20 ((enc L).length) oc20 (bv (enc L))] _ := hS114.blkOw' (i := 0) (m := 0) (size := 1) (xs := bv []) rfl rfl rfl (by decide); clear hS114
                refine hK _ _ ?_; clear hK K
                refine l_q rfl rfl (q_moveS rfl) ?_
                refine l_e rfl (fun K hK => ?_)
                refine e_app (e := 5) (size := 1) (bytes := 1) (i := 0) (m' := (enc L).length) (by kernel_rfl) hS114o rfl rfl rfl (SlG.src (e := 5) (by kernel_rfl) (hS114o.owG (i := 4) rfl) (by first | (simp only [List.length_append, List.length_map, List.length_cons, List.length_nil, List.length_take, List.length_drop, List.length_set, Nat.mul_one]; done) | (simp only [List.length_append, List.length_map, List.length_cons, List.length_nil, List.length_take, List.length_drop, List.length_set]; omega) | rfl | (simp; done)) (by decide) (bv_one _)) (by first | omega | (simp only [List.length_append, List.length_map, List.length_cons, List.length_nil, List.length_take, List.length_drop, List.length_set] <;> omega) | (simp; done)) rfl (by first | omega | (simp only [maxLen, List.length_append, List.length_map, List.length_cons, List.length_nil, List.length_take, List.length_drop, List.length_set] <;> omega) | (simp only [maxLen]; omega)) (by first | omega | (simp only [List.length_append, List.length_map, List.length_cons, List.length_nil, List.length_take, List.length_drop, List.length_set] <;> omega)) (fun ad115 cp115 w115 (hS115 : St _ _ [.ow 5 1 ad115 ((enc L).length) cp115 (bv (enc L)), .ow 31 3 oa108 (((decR ((enc L).take ((enc L).length - 1))).1).length) oc108 (List.flatMap vl ((decR ((enc L).take ((enc L).length - 1))).1)), .ow 31 3 oa28 (((decR b).1).length) oc28 (List.flatMap vl ((decR b).1)), .ow 31 3 oa23 (((decR (enc L)).1).length) oc23 (List.flatMap vl ((decR (enc L)).1)), .ow 5 1 oa20 ((enc L).length) oc20 (bv (enc L))] _) => ?_)
                clear hS114o
                refine hK _ _ ?_; clear hK K
                refine l_q rfl rfl (q_moveI rfl) ?_
                refine l_e rfl (fun K hK => ?_)
                refine e_buildSlice1 (e := 5) (zv := .int .u8 0) (xs := [.tmp 97]) hS115 (by kernel_rfl) (by kernel_rfl) (by kernel_rfl) rfl rfl rfl rfl (allone (by repeat' (first | exact trivial | refine ⟨by first | rfl | assumption, ?_⟩))) rfl (fun b116 w116 (hS116 : St _ _ [.blk b116 (.cells #[.int .u8 ((c : Nat) : Int)] 5), .ow 5 1 ad115 ((enc L).length) cp115 (bv (enc L)), .ow 31 3 oa108 (((decR ((enc L).take ((enc L).length - 1))).1).length) oc108 (List.flatMap vl ((decR ((enc L).take ((enc L).length - 1))).1)), .ow 31 3 oa28 (((decR b).1).length) oc28 (List.flatMap vl ((decR b).1)), .ow 31 3 oa23 (((decR (enc L)).1).length) oc23 (List.flatMap vl ((decR (enc L)).1)), .ow 5 1 oa20 ((enc L).length) oc20 (bv (enc L))] _) => ?_)
                clear hS115
                have hS116o : St _ _ [.ow 5 1 (some ⟨b116, 0, none⟩) 1 1 (bv [c]), .ow 5 1 ad115 ((enc L).length) cp115 (bv (enc L)), .ow 31 3 oa108 (((decR ((enc L).take ((enc L).length - 1))).1).length) oc108 (List.flatMap vl ((decR ((enc L).take ((enc L).length - 1))).1)), .ow 31 3 oa28 (((decR b).1).length) oc28 (List.flatMap vl ((decR b).1)), .ow 31 3 oa23 (((decR (enc L)).1).length) oc23 (List.flatMap vl ((decR (enc L)).1)), .ow 5 1 oa20 ((enc L).length) oc20 (bv (enc L))] _ := hS116.blkOw' (i := 0) (m := 1) (size := 1) (xs := bv [c]) rfl rfl rfl (by decide); clear hS116
                refine hK _ _ ?_; clear hK K
                refine l_e rfl (fun K hK => ?_)
                have hB117 : Bytes ((enc L) ++ [c]) := Bytes.app (enc_bytes hRL.1) (fun x hx => by rw [List.mem_singleton] at hx; subst hx; exact hc)
                refine e_app (e := 5) (size := 1) (bytes := 1) (i := 1) (m' := ((enc L) ++ [c]).length) (by kernel_rfl) hS116o rfl rfl rfl (SlG.src (e := 5) (by kernel_rfl) (hS116o.owG (i := 0) rfl) (by first | (simp only [List.length_append, List.length_map, List.length_cons, List.length_nil, List.length_take, List.length_drop, List.length_set, Nat.mul_one]; done) | (simp only [List.length_append, List.length_map, List.length_cons, List.length_nil, List.length_take, List.length_drop, List.length_set]; omega) | rfl | (simp; done)) (by decide) (bv_one _)) (by first | omega | (simp only [List.length_append, List.length_map, List.length_cons, List.length_nil, List.length_take, List.length_drop, List.length_set] <;> omega) | (simp; done)) bv_app (by first | omega | (simp only [maxLen, List.length_append, List.length_map, List.length_cons, List.length_nil, List.length_take, List.length_drop, List.length_set] <;> omega) | (simp only [maxLen]; omega)) (by first | omega | (simp only [List.length_append, List.length_map, List.length_cons, List.length_nil, List.length_take, List.length_drop, List.length_set] <;> omega)) (fun ad117 cp117 w117 (hS117 : St _ _ [.ow 5 1 (some ⟨b116, 0, none⟩) 1 1 (bv [c]), .ow 5 1 ad117 (((enc L) ++ [c]).length) cp117 (bv ((enc L) ++ [c])), .ow 31 3 oa108 (((decR ((enc L).take ((enc L).length - 1))).1).length) oc108 (List.flatMap vl ((decR ((enc L).take ((enc L).length - 1))).1)), .ow 31 3 oa28 (((decR b).1).length) oc28 (List.flatMap vl ((decR b).1)), .ow 31 3 oa23 (((decR (enc L)).1).length) oc23 (List.flatMap vl ((decR (enc L)).1)), .ow 5 1 oa20 ((enc L).length) oc20 (bv (enc L))] _) => ?_)
                clear hS116o
                refine hK _ _ ?_; clear hK K
                refine l_e rfl (fun K hK => ?_)
                have hcp118 := (hS117.owLen (i := 1) rfl).2.1
                have hd118 := decR_len ((enc L) ++ [c])
                refine e_call (by kernel_rfl) (dec_ok ((enc L) ++ [c]) hB117 (((enc L) ++ [c]).length) (by first | omega | (simp only [List.length_append, List.length_map, List.length_cons, List.length_nil, List.length_take, List.length_drop, List.length_set] <;> omega)) _ _ (by first | omega | (simp only [List.length_append, List.length_map, List.length_cons, List.length_nil, List.length_take, List.length_drop, List.length_set] <;> omega)) (by first | omega | (simp only [List.length_append, List.length_map, List.length_cons, List.length_nil, List.length_take, List.length_drop, List.length_set] <;> omega)) _ _ (Gle.refl _) (hS117.owG (i := 1) rfl)) rfl (after_N hS117 (fun v118 G118 w118 hv118 hS118 => ?_))
                clear hS117
                obtain ⟨oa118, oc118, rfl, rfl⟩ := hv118
                have hS119 : St _ _ [.ow 31 3 oa118 (((decR ((enc L) ++ [c])).1).length) oc118 (List.flatMap vl ((decR ((enc L) ++ [c])).1)), .ow 5 1 (some ⟨b116, 0, none⟩) 1 1 (bv [c]), .ow 5 1 ad117 (((enc L) ++ [c]).length) cp117 (bv ((enc L) ++ [c])), .ow 31 3 oa108 (((decR ((enc L).take ((enc L).length - 1))).1).length) oc108 (List.flatMap vl ((decR ((enc L).take ((enc L).length - 1))).1)), .ow 31 3 oa28 (((decR b).1).length) oc28 (List.flatMap vl ((decR b).1)), .ow 31 3 oa23 (((decR (enc L)).1).length) oc23 (List.flatMap vl ((decR (enc L)).1)), .ow 5 1 oa20 ((enc L).length) oc20 (bv (enc L))] _ := hS118; clear hS118
                refine hK _ _ ?_; clear hK K
                refine l_q rfl rfl (q_move rfl) ?_
                refine l_q rfl rfl (q_extract rfl rfl) ?_
                refine l_q rfl rfl (q_extract rfl rfl) ?_
                refine l_q rfl rfl (q_assignS rfl) ?_
                refine l_q rfl rfl (q_assignI rfl) ?_
                refine l_nil ?_
                refine hK113 _ _ ?_
                refine wp_seq_k (fun K120 hK120 => ?_)
                refine wp_seq_k (fun K121 hK121 => ?_)
                refine wp_region_lit ?_
                refine l_q rfl rfl (q_moveI rfl) ?_
                refine l_q rfl rfl (q_eql rfl rfl) ?_
                refine l_q rfl rfl (q_moveB rfl) ?_
                refine g_splitL (t := 105) rfl (fun hg122 => ?_) (fun hg122 => ?_)
                ·
                  have hg122b := hg122
                  try simp only [decide_eq_true_eq, decide_eq_false_iff_not, Bool.not_eq_true', Bool.not_eq_false', Bool.and_eq_true, Bool.or_eq_true, Int.not_lt, Int.not_le, ne_eq, Decidable.not_not] at hg122
                  refine l_on rfl rfl hg122b ?_
                  refine l_q rfl rfl (q_moveS rfl) ?_
                  refine l_on rfl rfl hg122b ?_
                  refine l_q rfl rfl (q_lenSl (e := 31) rfl (by kernel_rfl)) ?_
                  refine l_on rfl rfl hg122b ?_
                  refine l_q rfl rfl (q_moveS rfl) ?_
                  refine l_on rfl rfl hg122b ?_
                  refine l_q rfl rfl (q_lenSl (e := 31) rfl (by kernel_rfl)) ?_
                  refine l_on rfl rfl hg122b ?_
                  refine l_q rfl rfl (q_leq rfl rfl) ?_
                  refine l_q rfl rfl (q_pickT rfl hg122b rfl) ?_
                  refine l_nil ?_
                  refine hK121 _ _ ?_
                  refine c_cond rfl (fun hc123 => ?_) (fun hc123 => ?_)
                  ·
                    have hc123b := hc123
                    try simp only [decide_eq_true_eq, decide_eq_false_iff_not, Bool.not_eq_true', Bool.not_eq_false', Bool.and_eq_true, Bool.or_eq_true, Int.not_lt, Int.not_le, ne_eq, Decidable.not_not] at hc123
                    exact absurd (back2 (c := c) hRL (by omega)) (by omega)
                  ·
                    have hc123b := hc123
                    try simp only [decide_eq_true_eq, decide_eq_false_iff_not, Bool.not_eq_true', Bool.not_eq_false', Bool.and_eq_true, Bool.or_eq_true, Int.not_lt, Int.not_le, ne_eq, Decidable.not_not] at hc123
                    refine wp_skip ?_
                    refine hK120 _ _ ?_
                    refine wp_seq_k (fun K124 hK124 => ?_)
                    refine wp_region_lit ?_
                    refine l_e rfl (fun K hK => ?_)
                    refine e_call (by kernel_rfl) (alive4_ok _) rfl (after_R hS119 (fun v125 w125 hv125 hS125 => ?_))
                    clear hS119
                    obtain rfl := hv125
                    refine hK _ _ ?_; clear hK K
                    refine l_q rfl rfl (q_moveB rfl) ?_
                    refine l_on rfl rfl rfl ?_
                    refine l_q rfl rfl (q_moveI rfl) ?_
                    refine l_on rfl rfl rfl ?_
                    refine l_q rfl rfl (q_eql rfl rfl) ?_
                    refine l_q rfl rfl (q_pickT rfl rfl rfl) ?_
                    refine l_q rfl rfl (q_moveB rfl) ?_
                    refine l_on rfl rfl (by decide) ?_
                    refine l_q rfl rfl (q_moveI rfl) ?_
                    refine l_on rfl rfl (by decide) ?_
                    refine l_q rfl rfl (q_eql rfl rfl) ?_
                    refine l_q rfl rfl (q_pickT rfl (by decide) rfl) ?_
                    refine l_q rfl rfl (q_moveB rfl) ?_
                    refine l_on rfl rfl (decide_eq_true (by rw [hdx])) ?_
                    refine l_q rfl rfl (q_moveB rfl) ?_
                    refine l_q rfl rfl (q_pickT rfl (decide_eq_true (by rw [hdx])) rfl) ?_
                    refine l_q rfl rfl (q_assignB rfl) ?_
                    refine l_nil ?_
                    refine hK124 _ _ ?_
                    refine wp_ret ?_
                    refine c_ret1 rfl rfl ?_
                    exact ⟨_, rfl, congrArg Value.bool (decide_eq_true (by rw [hdx])), hS125.drop⟩
                ·
                  have hg122b := hg122
                  try simp only [decide_eq_true_eq, decide_eq_false_iff_not, Bool.not_eq_true', Bool.not_eq_false', Bool.and_eq_true, Bool.or_eq_true, Int.not_lt, Int.not_le, ne_eq, Decidable.not_not] at hg122
                  refine l_off rfl rfl rfl hg122b ?_
                  refine l_off rfl rfl rfl hg122b ?_
                  refine l_off rfl rfl rfl hg122b ?_
                  refine l_off rfl rfl rfl hg122b ?_
                  refine l_off rfl rfl rfl hg122b ?_
                  refine l_q rfl rfl (q_pickF rfl hg122b rfl) ?_
                  refine l_nil ?_
                  refine hK121 _ _ ?_
                  refine c_condF rfl rfl ?_
                  refine wp_skip ?_
                  refine hK120 _ _ ?_
                  refine wp_seq_k (fun K128 hK128 => ?_)
                  refine wp_region_lit ?_
                  refine l_e rfl (fun K hK => ?_)
                  refine e_call (by kernel_rfl) (alive4_ok _) rfl (after_R hS119 (fun v129 w129 hv129 hS129 => ?_))
                  clear hS119
                  obtain rfl := hv129
                  refine hK _ _ ?_; clear hK K
                  refine l_q rfl rfl (q_moveB rfl) ?_
                  refine l_on rfl rfl rfl ?_
                  refine l_q rfl rfl (q_moveI rfl) ?_
                  refine l_on rfl rfl rfl ?_
                  refine l_q rfl rfl (q_eql rfl rfl) ?_
                  refine l_q rfl rfl (q_pickT rfl rfl rfl) ?_
                  refine l_q rfl rfl (q_moveB rfl) ?_
                  refine l_on rfl rfl (by decide) ?_
                  refine l_q rfl rfl (q_moveI rfl) ?_
                  refine l_on rfl rfl (by decide) ?_
                  refine l_q rfl rfl (q_eql rfl rfl) ?_
                  refine l_q rfl rfl (q_pickT rfl (by decide) rfl) ?_
                  refine l_q rfl rfl (q_moveB rfl) ?_
                  refine l_on rfl rfl (decide_eq_true (by rw [hdx])) ?_
                  refine l_q rfl rfl (q_moveB rfl) ?_
                  refine l_q rfl rfl (q_pickT rfl (decide_eq_true (by rw [hdx])) rfl) ?_
                  refine l_q rfl rfl (q_assignB rfl) ?_
                  refine l_nil ?_
                  refine hK128 _ _ ?_
                  refine wp_ret ?_
                  refine c_ret1 rfl rfl ?_
                  exact ⟨_, rfl, congrArg Value.bool (decide_eq_true (by rw [hdx])), hS129.drop⟩
            ·
              have hg111b := hg111
              try simp only [decide_eq_true_eq, decide_eq_false_iff_not, Bool.not_eq_true', Bool.not_eq_false', Bool.and_eq_true, Bool.or_eq_true, Int.not_lt, Int.not_le, ne_eq, Decidable.not_not] at hg111
              refine l_off rfl rfl rfl hg111b ?_
              refine l_off rfl rfl rfl hg111b ?_
              refine l_off rfl rfl rfl hg111b ?_
              refine l_off rfl rfl rfl hg111b ?_
              refine l_off rfl rfl rfl hg111b ?_
              refine l_q rfl rfl (q_pickF rfl hg111b rfl) ?_
              refine l_nil ?_
              refine hK110 _ _ ?_
              refine c_condF rfl rfl ?_
              refine wp_skip ?_
              refine hK103 _ _ ?_
              refine wp_seq_k (fun K132 hK132 => ?_)
              refine wp_region_lit ?_
              refine l_e rfl (fun K hK => ?_)
              refine e_buildSlice1 (e := 5) (zv := .int .u8 0) (xs := []) hS109 (by kernel_rfl) (by kernel_rfl) (by kernel_rfl) rfl rfl rfl rfl ((by intro u hu; cases hu)) rfl (fun b133 w133 (hS133 : St _ _ [.blk b133 (.cells #[] 5), .ow 31 3 oa108 (((decR ((enc L).take ((enc L).length - 1))).1).length) oc108 (List.flatMap vl ((decR ((enc L).take ((enc L).length - 1))).1)), .ow 31 3 oa28 (((decR b).1).length) oc28 (List.flatMap vl ((decR b).1)), .ow 31 3 oa23 (((decR (enc L)).1).length) oc23 (List.flatMap vl ((decR (enc L)).1)), .ow 5 1 oa20 ((enc L).length) oc20 (bv (enc L))] _) => ?_)
              clear hS109
              have hS133o : St _ _ [.ow 5 1 (some ⟨b133, 0, none⟩) 0 0 (bv []), .ow 31 3 oa108 (((decR ((enc L).take ((enc L).length - 1))).1).length) oc108 (List.flatMap vl ((decR ((enc L).take ((enc L).length - 1))).1)), .ow 31 3 oa28 (((decR b).1).length) oc28 (List.flatMap vl ((decR b).1)), .ow 31 3 oa23 (((decR (enc L)).1).length) oc23 (List.flatMap vl ((decR (enc L)).1)), .ow 5 1 oa20 ((enc L).length) oc20 (bv (enc L))] _ := hS133.blkOw' (i := 0) (m := 0) (size := 1) (xs := bv []) rfl rfl rfl (by decide); clear hS133
              refine hK _ _ ?_; clear hK K
              refine l_q rfl rfl (q_moveS rfl) ?_
              refine l_e rfl (fun K hK => ?_)
              refine e_app (e := 5) (size := 1) (bytes := 1) (i := 0) (m' := (enc L).length) (by kernel_rfl) hS133o rfl rfl rfl (SlG.src (e := 5) (by kernel_rfl) (hS133o.owG (i := 4) rfl) (by first | (simp only [List.length_append, List.length_map, List.length_cons, List.length_nil, List.length_take, List.length_drop, List.length_set, Nat.mul_one]; done) | (simp only [List.length_append, List.length_map, List.length_cons, List.length_nil, List.length_take, List.length_drop, List.length_set]; omega) | rfl | (simp; done)) (by decide) (bv_one _)) (by first | omega | (simp only [List.length_append, List.length_map, List.length_cons, List.length_nil, List.length_take, List.length_drop, List.length_set] <;> omega) | (simp; done)) rfl (by first | omega | (simp only [maxLen, List.length_append, List.length_map, List.length_cons, List.length_nil, List.length_take, List.length_drop, List.length_set] <;> omega) | (simp only [maxLen]; omega)) (by first | omega | (simp only [List.length_append, List.length_map, List.length_cons, List.length_nil, List.length_take, List.length_drop, List.length_set] <;> omega)) (fun ad134 cp134 w134 (hS134 : St _ _ [.ow 5 1 ad134 ((enc L).length) cp134 (bv (enc L)), .ow 31 3 oa108 (((decR ((enc L).take ((enc L).length - 1))).1).length) oc108 (List.flatMap vl ((decR ((enc L).take ((enc L).length - 1))).1)), .ow 31 3 oa28 (((decR b).1).length) oc28 (List.flatMap vl ((decR b).1)), .ow 31 3 oa23 (((decR (enc L)).1).length) oc23 (List.flatMap vl ((decR (enc L)).1)), .ow 5 1 oa20 ((enc L).length) oc20 (bv (enc L))] _) => ?_)
              clear hS133o
              refine hK _ _ ?_; clear hK K
              refine l_q rfl rfl (q_moveI rfl) ?_
              refine l_e rfl (fun K hK => ?_)
              refine e_buildSlice1 (e := 5) (zv := .int .u8 0) (xs := [.tmp 97]) hS134 (by kernel_rfl) (by kernel_rfl) (by kernel_rfl) rfl rfl rfl rfl (allone (by repeat' (first | exact trivial | refine ⟨by first | rfl | assumption, ?_⟩))) rfl (fun b135 w135 (hS135 : St _ _ [.blk b135 (.cells #[.int .u8 ((c : Nat) : Int)] 5), .ow 5 1 ad134 ((enc L).length) cp134 (bv (enc L)), .ow 31 3 oa108 (((decR ((enc L).take ((enc L).length - 1))).1).length) oc108 (List.flatMap vl ((decR ((enc L).take ((enc L).length - 1))).1)), .ow 31 3 oa28 (((decR b).1).length) oc28 (List.flatMap vl ((decR b).1)), .ow 31 3 oa23 (((decR (enc L)).1).length) oc23 (List.flatMap vl ((decR (enc L)).1)), .ow 5 1 oa20 ((enc L).length) oc20 (bv (enc L))] _) => ?_)
              clear hS134
              have hS135o : St _ _ [.ow 5 1 (some ⟨b135, 0, none⟩) 1 1 (bv [c]), .ow 5 1 ad134 ((enc L).length) cp134 (bv (enc L)), .ow 31 3 oa108 (((decR ((enc L).take ((enc L).length - 1))).1).length) oc108 (List.flatMap vl ((decR ((enc L).take ((enc L).length - 1))).1)), .ow 31 3 oa28 (((decR b).1).length) oc28 (List.flatMap vl ((decR b).1)), .ow 31 3 oa23 (((decR (enc L)).1).length) oc23 (List.flatMap vl ((decR (enc L)).1)), .ow 5 1 oa20 ((enc L).length) oc20 (bv (enc L))] _ := hS135.blkOw' (i := 0) (m := 1) (size := 1) (xs := bv [c]) rfl rfl rfl (by decide); clear hS135
              refine hK _ _ ?_; clear hK K
              refine l_e rfl (fun K hK => ?_)
              have hB136 : Bytes ((enc L) ++ [c]) := Bytes.app (enc_bytes hRL.1) (fun x hx => by rw [List.mem_singleton] at hx; subst hx; exact hc)
              refine e_app (e := 5) (size := 1) (bytes := 1) (i := 1) (m' := ((enc L) ++ [c]).length) (by kernel_rfl) hS135o rfl rfl rfl (SlG.src (e := 5) (by kernel_rfl) (hS135o.owG (i := 0) rfl) (by first | (simp only [List.length_append, List.length_map, List.length_cons, List.length_nil, List.length_take, List.length_drop, List.length_set, Nat.mul_one]; done) | (simp only [List.length_append, List.length_map, List.length_cons, List.length_nil, List.length_take, List.length_drop, List.length_set]; omega) | rfl | (simp; done)) (by decide) (bv_one _)) (by first | omega | (simp only [List.length_append, List.length_map, List.length_cons, List.length_nil, List.length_take, List.length_drop, List.length_set] <;> omega) | (simp; done)) bv_app (by first | omega | (simp only [maxLen, List.length_append, List.length_map, List.length_cons, List.length_nil, List.length_take, List.length_drop, List.length_set] <;> omega) | (simp only [maxLen]; omega)) (by first | omega | (simp only [List.length_append, List.length_map, List.length_cons, List.length_nil, List.length_take, List.length_drop, List.length_set] <;> omega)) (fun ad136 cp136 w136 (hS136 : St _ _ [.ow 5 1 (some ⟨b135, 0, none⟩) 1 1 (bv [c]), .ow 5 1 ad136 (((enc L) ++ [c]).length) cp136 (bv ((enc L) ++ [c])), .ow 31 3 oa108 (((decR ((enc L).take ((enc L).length - 1))).1).length) oc108 (List.flatMap vl ((decR ((enc L).take ((enc L).length - 1))).1)), .ow 31 3 oa28 (((decR b).1).length) oc28 (List.flatMap vl ((decR b).1)), .ow 31 3 oa23 (((decR (enc L)).1).length) oc23 (List.flatMap vl ((decR (enc L)).1)), .ow 5 1 oa20 ((enc L).length) oc20 (bv (enc L))] _) => ?_)
              clear hS135o
              refine hK _ _ ?_; clear hK K
              refine l_e rfl (fun K hK => ?_)
              have hcp137 := (hS136.owLen (i := 1) rfl).2.1
              have hd137 := decR_len ((enc L) ++ [c])
              refine e_call (by kernel_rfl) (dec_ok ((enc L) ++ [c]) hB136 (((enc L) ++ [c]).length) (by first | omega | (simp only [List.length_append, List.length_map, List.length_cons, List.length_nil, List.length_take, List.length_drop, List.length_set] <;> omega)) _ _ (by first | omega | (simp only [List.length_append, List.length_map, List.length_cons, List.length_nil, List.length_take, List.length_drop, List.length_set] <;> omega)) (by first | omega | (simp only [List.length_append, List.length_map, List.length_cons, List.length_nil, List.length_take, List.length_drop, List.length_set] <;> omega)) _ _ (Gle.refl _) (hS136.owG (i := 1) rfl)) rfl (after_N hS136 (fun v137 G137 w137 hv137 hS137 => ?_))
              clear hS136
              obtain ⟨oa137, oc137, rfl, rfl⟩ := hv137
              have hS138 : St _ _ [.ow 31 3 oa137 (((decR ((enc L) ++ [c])).1).length) oc137 (List.flatMap vl ((decR ((enc L) ++ [c])).1)), .ow 5 1 (some ⟨b135, 0, none⟩) 1 1 (bv [c]), .ow 5 1 ad136 (((enc L) ++ [c]).length) cp136 (bv ((enc L) ++ [c])), .ow 31 3 oa108 (((decR ((enc L).take ((enc L).length - 1))).1).length) oc108 (List.flatMap vl ((decR ((enc L).take ((enc L).length - 1))).1)), .ow 31 3 oa28 (((decR b).1).length) oc28 (List.flatMap vl ((decR b).1)), .ow 31 3 oa23 (((decR (enc L)).1).length) oc23 (List.flatMap vl ((decR (enc L)).1)), .ow 5 1 oa20 ((enc L).length) oc20 (bv (enc L))] _ := hS137; clear hS137
              refine hK _ _ ?_; clear hK K
              refine l_q rfl rfl (q_move rfl) ?_
              refine l_q rfl rfl (q_extract rfl rfl) ?_
              refine l_q rfl rfl (q_extract rfl rfl) ?_
              refine l_q rfl rfl (q_assignS rfl) ?_
              refine l_q rfl rfl (q_assignI rfl) ?_
              refine l_nil ?_
              refine hK132 _ _ ?_
              refine wp_seq_k (fun K139 hK139 => ?_)
              refine wp_seq_k (fun K140 hK140 => ?_)
              refine wp_region_lit ?_
              refine l_q rfl rfl (q_moveI rfl) ?_
              refine l_q rfl rfl (q_eql rfl rfl) ?_
              refine l_q rfl rfl (q_moveB rfl) ?_
              refine g_splitL (t := 105) rfl (fun hg141 => ?_) (fun hg141 => ?_)
              ·
                have hg141b := hg141
                try simp only [decide_eq_true_eq, decide_eq_false_iff_not, Bool.not_eq_true', Bool.not_eq_false', Bool.and_eq_true, Bool.or_eq_true, Int.not_lt, Int.not_le, ne_eq, Decidable.not_not] at hg141
                refine l_on rfl rfl hg141b ?_
                refine l_q rfl rfl (q_moveS rfl) ?_
                refine l_on rfl rfl hg141b ?_
                refine l_q rfl rfl (q_lenSl (e := 31) rfl (by kernel_rfl)) ?_
                refine l_on rfl rfl hg141b ?_
                refine l_q rfl rfl (q_moveS rfl) ?_
                refine l_on rfl rfl hg141b ?_
                refine l_q rfl rfl (q_lenSl (e := 31) rfl (by kernel_rfl)) ?_
                refine l_on rfl rfl hg141b ?_
                refine l_q rfl rfl (q_leq rfl rfl) ?_
                refine l_q rfl rfl (q_pickT rfl hg141b rfl) ?_
                refine l_nil ?_
                refine hK140 _ _ ?_
                refine c_cond rfl (fun hc142 => ?_) (fun hc142 => ?_)
                ·
                  have hc142b := hc142
                  try simp only [decide_eq_true_eq, decide_eq_false_iff_not, Bool.not_eq_true', Bool.not_eq_false', Bool.and_eq_true, Bool.or_eq_true, Int.not_lt, Int.not_le, ne_eq, Decidable.not_not] at hc142
                  exact absurd (back2 (c := c) hRL (by omega)) (by omega)
                ·
                  have hc142b := hc142
                  try simp only [decide_eq_true_eq, decide_eq_false_iff_not, Bool.not_eq_true', Bool.not_eq_false', Bool.and_eq_true, Bool.or_eq_true, Int.not_lt, Int.not_le, ne_eq, Decidable.not_not] at hc142
                  refine wp_skip ?_
                  refine hK139 _ _ ?_
                  refine wp_seq_k (fun K143 hK143 => ?_)
                  refine wp_region_lit ?_
                  refine l_e rfl (fun K hK => ?_)
                  refine e_call (by kernel_rfl) (alive4_ok _) rfl (after_R hS138 (fun v144 w144 hv144 hS144 => ?_))
                  clear hS138
                  obtain rfl := hv144
                  refine hK _ _ ?_; clear hK K
                  refine l_q rfl rfl (q_moveB rfl) ?_
                  refine l_on rfl rfl rfl ?_
                  refine l_q rfl rfl (q_moveI rfl) ?_
                  refine l_on rfl rfl rfl ?_
                  refine l_q rfl rfl (q_eql rfl rfl) ?_
                  refine l_q rfl rfl (q_pickT rfl rfl rfl) ?_
                  refine l_q rfl rfl (q_moveB rfl) ?_
                  refine l_on rfl rfl (by decide) ?_
                  refine l_q rfl rfl (q_moveI rfl) ?_
                  refine l_on rfl rfl (by decide) ?_
                  refine l_q rfl rfl (q_eql rfl rfl) ?_
                  refine l_q rfl rfl (q_pickT rfl (by decide) rfl) ?_
                  refine l_q rfl rfl (q_moveB rfl) ?_
                  refine l_on rfl rfl (decide_eq_true (by rw [hdx])) ?_
                  refine l_q rfl rfl (q_moveB rfl) ?_
                  refine l_q rfl rfl (q_pickT rfl (decide_eq_true (by rw [hdx])) rfl) ?_
                  refine l_q rfl rfl (q_assignB rfl) ?_
                  refine l_nil ?_
                  refine hK143 _ _ ?_
                  refine wp_ret ?_
                  refine c_ret1 rfl rfl ?_
                  exact ⟨_, rfl, congrArg Value.bool (decide_eq_true (by rw [hdx])), hS144.drop⟩
              ·
                have hg141b := hg141
                try simp only [decide_eq_true_eq, decide_eq_false_iff_not, Bool.not_eq_true', Bool.not_eq_false', Bool.and_eq_true, Bool.or_eq_true, Int.not_lt, Int.not_le, ne_eq, Decidable.not_not] at hg141
                refine l_off rfl rfl rfl hg141b ?_
                refine l_off rfl rfl rfl hg141b ?_
                refine l_off rfl rfl rfl hg141b ?_
                refine l_off rfl rfl rfl hg141b ?_
                refine l_off rfl rfl rfl hg141b ?_
                refine l_q rfl rfl (q_pickF rfl hg141b rfl) ?_
                refine l_nil ?_
                refine hK140 _ _ ?_
                refine c_condF rfl rfl ?_
                refine wp_skip ?_
                refine hK139 _ _ ?_
                refine wp_seq_k (fun K147 hK147 => ?_)
                refine wp_region_lit ?_
                refine l_e rfl (fun K hK => ?_)
                refine e_call (by kernel_rfl) (alive4_ok _) rfl (after_R hS138 (fun v148 w148 hv148 hS148 => ?_))
                clear hS138
                obtain rfl := hv148
                refine hK _ _ ?_; clear hK K
                refine l_q rfl rfl (q_moveB rfl) ?_
                refine l_on rfl rfl rfl ?_
                refine l_q rfl rfl (q_moveI rfl) ?_
                refine l_on rfl rfl rfl ?_
                refine l_q rfl rfl (q_eql rfl rfl) ?_
                refine l_q rfl rfl (q_pickT rfl rfl rfl) ?_
                refine l_q rfl rfl (q_moveB rfl) ?_
                refine l_on rfl rfl (by decide) ?_
                refine l_q rfl rfl (q_moveI rfl) ?_
                refine l_on rfl rfl (by decide) ?_
                refine l_q rfl rfl (q_eql rfl rfl) ?_
                refine l_q rfl rfl (q_pickT rfl (by decide) rfl) ?_
                refine l_q rfl rfl (q_moveB rfl) ?_
                refine l_on rfl rfl (decide_eq_true (by rw [hdx])) ?_
                refine l_q rfl rfl (q_moveB rfl) ?_
                refine l_q rfl rfl (q_pickT rfl (decide_eq_true (by rw [hdx])) rfl) ?_
                refine l_q rfl rfl (q_assignB rfl) ?_
                refine l_nil ?_
                refine hK147 _ _ ?_
                refine wp_ret ?_
                refine c_ret1 rfl rfl ?_
                exact ⟨_, rfl, congrArg Value.bool (decide_eq_true (by rw [hdx])), hS148.drop⟩
          ·
            have hc105b := hc105
            try simp only [decide_eq_true_eq, decide_eq_false_iff_not, Bool.not_eq_true', Bool.not_eq_false', Bool.and_eq_true, Bool.or_eq_true, Int.not_lt, Int.not_le, ne_eq, Decidable.not_not] at hc105
            refine wp_skip ?_
            refine hK103 _ _ ?_
            refine wp_seq_k (fun K150 hK150 => ?_)
            refine wp_region_lit ?_
            refine l_e rfl (fun K hK => ?_)
            refine e_buildSlice1 (e := 5) (zv := .int .u8 0) (xs := []) hS29 (by kernel_rfl) (by kernel_rfl) (by kernel_rfl) rfl rfl rfl rfl ((by intro u hu; cases hu)) rfl (fun b151 w151 (hS151 : St _ _ [.blk b151 (.cells #[] 5), .ow 31 3 oa28 (((decR b).1).length) oc28 (List.flatMap vl ((decR b).1)), .ow 31 3 oa23 (((decR (enc L)).1).length) oc23 (List.flatMap vl ((decR (enc L)).1)), .ow 5 1 oa20 ((enc L).length) oc20 (bv (enc L))] _) => ?_)
            clear hS29
            have hS151o : St _ _ [.ow 5 1 (some ⟨b151, 0, none⟩) 0 0 (bv []), .ow 31 3 oa28 (((decR b).1).length) oc28 (List.flatMap vl ((decR b).1)), .ow 31 3 oa23 (((decR (enc L)).1).length) oc23 (List.flatMap vl ((decR (enc L)).1)), .ow 5 1 oa20 ((enc L).length) oc20 (bv (enc L))] _ := hS151.blkOw' (i := 0) (m := 0) (size := 1) (xs := bv []) rfl rfl rfl (by decide); clear hS151
            refine hK _ _ ?_; clear hK K
            refine l_q rfl rfl (q_moveS rfl) ?_
            refine l_e rfl (fun K hK => ?_)
            refine e_app (e := 5) (size := 1) (bytes := 1) (i := 0) (m' := (enc L).length) (by kernel_rfl) hS151o rfl rfl rfl (SlG.src (e := 5) (by kernel_rfl) (hS151o.owG (i := 3) rfl) (by first | (simp only [List.length_append, List.length_map, List.length_cons, List.length_nil, List.length_take, List.length_drop, List.length_set, Nat.mul_one]; done) | (simp only [List.length_append, List.length_map, List.length_cons, List.length_nil, List.length_take, List.length_drop, List.length_set]; omega) | rfl | (simp; done)) (by decide) (bv_one _)) (by first | omega | (simp only [List.length_append, List.length_map, List.length_cons, List.length_nil, List.length_take, List.length_drop, List.length_set] <;> omega) | (simp; done)) rfl (by first | omega | (simp only [maxLen, List.length_append, List.length_map, List.length_cons, List.length_nil, List.length_take, List.length_drop, List.length_set] <;> omega) | (simp only [maxLen]; omega)) (by first | omega | (simp only [List.length_append, List.length_map, List.length_cons, List.length_nil, List.length_take, List.length_drop, List.length_set] <;> omega)) (fun ad152 cp152 w152 (hS152 : St _ _ [.ow 5 1 ad152 ((enc L).length) cp152 (bv (enc L)), .ow 31 3 oa28 (((decR b).1).length) oc28 (List.flatMap vl ((decR b).1)), .ow 31 3 oa23 (((decR (enc L)).1).length) oc23 (List.flatMap vl ((decR (enc L)).1)), .ow 5 1 oa20 ((enc L).length) oc20 (bv (enc L))] _) => ?_)
            clear hS151o
            refine hK _ _ ?_; clear hK K
            refine l_q rfl rfl (q_moveI rfl) ?_
            refine l_e rfl (fun K hK => ?_)
            refine e_buildSlice1 (e := 5) (zv := .int .u8 0) (xs := [.tmp 97]) hS152 (by kernel_rfl) (by kernel_rfl) (by kernel_rfl) rfl rfl rfl rfl (allone (by repeat' (first | exact trivial | refine ⟨by first | rfl | assumption, ?_⟩))) rfl (fun b153 w153 (hS153 : St _ _ [.blk b153 (.cells #[.int .u8 ((c : Nat) : Int)] 5), .ow 5 1 ad152 ((enc L).length) cp152 (bv (enc L)), .ow 31 3 oa28 (((decR b).1).length) oc28 (List.flatMap vl ((decR b).1)), .ow 31 3 oa23 (((decR (enc L)).1).length) oc23 (List.flatMap vl ((decR (enc L)).1)), .ow 5 1 oa20 ((enc L).length) oc20 (bv (enc L))] _) => ?_)
            clear hS152
            have hS153o : St _ _ [.ow 5 1 (some ⟨b153, 0, none⟩) 1 1 (bv [c]), .ow 5 1 ad152 ((enc L).length) cp152 (bv (enc L)), .ow 31 3 oa28 (((decR b).1).length) oc28 (List.flatMap vl ((decR b).1)), .ow 31 3 oa23 (((decR (enc L)).1).length) oc23 (List.flatMap vl ((decR (enc L)).1)), .ow 5 1 oa20 ((enc L).length) oc20 (bv (enc L))] _ := hS153.blkOw' (i := 0) (m := 1) (size := 1) (xs := bv [c]) rfl rfl rfl (by decide); clear hS153
            refine hK _ _ ?_; clear hK K
            refine l_e rfl (fun K hK => ?_)
            have hB154 : Bytes ((enc L) ++ [c]) := Bytes.app (enc_bytes hRL.1) (fun x hx => by rw [List.mem_singleton] at hx; subst hx; exact hc)
            refine e_app (e := 5) (size := 1) (bytes := 1) (i := 1) (m' := ((enc L) ++ [c]).length) (by kernel_rfl) hS153o rfl rfl rfl (SlG.src (e := 5) (by kernel_rfl) (hS153o.owG (i := 0) rfl) (by first | (simp only [List.length_append, List.length_map, List.length_cons, List.length_nil, List.length_take, List.length_drop, List.length_set, Nat.mul_one]; done) | (simp only [List.length_append, List.length_map, List.length_cons, List.length_nil, List.length_take, List.length_drop, List.length_set]; omega) | rfl | (simp; done)) (by decide) (bv_one _)) (by first | omega | (simp only [List.length_append, List.length_map, List.length_cons, List.length_nil, List.length_take, List.length_drop, List.length_set] <;> omega) | (simp; done)) bv_app (by first | omega | (simp only [maxLen, List.length_append, List.length_map, List.length_cons, List.length_nil, List.length_take, List.length_drop, List.length_set] <;> omega) | (simp only [maxLen]; omega)) (by first | omega | (simp only [List.length_append, List.length_map, List.length_cons, List.length_nil, List.length_take, List.length_drop, List.length_set] <;> omega)) (fun ad154 cp154 w154 (hS154 : St _ _ [.ow 5 1 (some ⟨b153, 0, none⟩) 1 1 (bv [c]), .ow 5 1 ad154 (((enc L) ++ [c]).length) cp154 (bv ((enc L) ++ [c])), .ow 31 3 oa28 (((decR b).1).length) oc28 (List.flatMap vl ((decR b).1)), .ow 31 3 oa23 (((decR (enc L)).1).length) oc23 (List.flatMap vl ((decR (enc L)).1)), .ow 5 1 oa20 ((enc L).length) oc20 (bv (enc L))] _) => ?_)
            clear hS153o
            refine hK _ _ ?_; clear hK K
            refine l_e rfl (fun K hK => ?_)
            have hcp155 := (hS154.owLen (i := 1) rfl).2.1
            have hd155 := decR_len ((enc L) ++ [c])
            refine e_call (by kernel_rfl) (dec_ok ((enc L) ++ [c]) hB154 (((enc L) ++ [c]).length) (by first | omega | (simp only [List.length_append, List.length_map, List.length_cons, List.length_nil, List.length_take, List.length_drop, List.length_set] <;> omega)) _ _ (by first | omega | (simp only [List.length_append, List.length_map, List.length_cons, List.length_nil, List.length_take, List.length_drop, List.length_set] <;> omega)) (by first | omega | (simp only [List.length_append, List.length_map, List.length_cons, List.length_nil, List.length_take, List.length_drop, List.length_set] <;> omega)) _ _ (Gle.refl _) (hS154.owG (i := 1) rfl)) rfl (after_N hS154 (fun v155 G155 w155 hv155 hS155 => ?_))
            clear hS154
            obtain ⟨oa155, oc155, rfl, rfl⟩ := hv155
            have hS156 : St _ _ [.ow 31 3 oa155 (((decR ((enc L) ++ [c])).1).length) oc155 (List.flatMap vl ((decR ((enc L) ++ [c])).1)), .ow 5 1 (some ⟨b153, 0, none⟩) 1 1 (bv [c]), .ow 5 1 ad154 (((enc L) ++ [c]).length) cp154 (bv ((enc L) ++ [c])), .ow 31 3 oa28 (((decR b).1).length) oc28 (List.flatMap vl ((decR b).1)), .ow 31 3 oa23 (((decR (enc L)).1).length) oc23 (List.flatMap vl ((decR (enc L)).1)), .ow 5 1 oa20 ((enc L).length) oc20 (bv (enc L))] _ := hS155; clear hS155
            refine hK _ _ ?_; clear hK K
            refine l_q rfl rfl (q_move rfl) ?_
            refine l_q rfl rfl (q_extract rfl rfl) ?_
            refine l_q rfl rfl (q_extract rfl rfl) ?_
            refine l_q rfl rfl (q_assignS rfl) ?_
            refine l_q rfl rfl (q_assignI rfl) ?_
            refine l_nil ?_
            refine hK150 _ _ ?_
            refine wp_seq_k (fun K157 hK157 => ?_)
            refine wp_seq_k (fun K158 hK158 => ?_)
            refine wp_region_lit ?_
            refine l_q rfl rfl (q_moveI rfl) ?_
            refine l_q rfl rfl (q_eql rfl rfl) ?_
            refine l_q rfl rfl (q_moveB rfl) ?_
            refine g_splitL (t := 105) rfl (fun hg159 => ?_) (fun hg159 => ?_)
            ·
              have hg159b := hg159
              try simp only [decide_eq_true_eq, decide_eq_false_iff_not, Bool.not_eq_true', Bool.not_eq_false', Bool.and_eq_true, Bool.or_eq_true, Int.not_lt, Int.not_le, ne_eq, Decidable.not_not] at hg159
              refine l_on rfl rfl hg159b ?_
              refine l_q rfl rfl (q_moveS rfl) ?_
              refine l_on rfl rfl hg159b ?_
              refine l_q rfl rfl (q_lenSl (e := 31) rfl (by kernel_rfl)) ?_
              refine l_on rfl rfl hg159b ?_
              refine l_q rfl rfl (q_moveS rfl) ?_
              refine l_on rfl rfl hg159b ?_
              refine l_q rfl rfl (q_lenSl (e := 31) rfl (by kernel_rfl)) ?_
              refine l_on rfl rfl hg159b ?_
              refine l_q rfl rfl (q_leq rfl rfl) ?_
              refine l_q rfl rfl (q_pickT rfl hg159b rfl) ?_
              refine l_nil ?_
              refine hK158 _ _ ?_
              refine c_cond rfl (fun hc160 => ?_) (fun hc160 => ?_)
              ·
                have hc160b := hc160
                try simp only [decide_eq_true_eq, decide_eq_false_iff_not, Bool.not_eq_true', Bool.not_eq_false', Bool.and_eq_true, Bool.or_eq_true, Int.not_lt, Int.not_le, ne_eq, Decidable.not_not] at hc160
                exact absurd (back2 (c := c) hRL (by omega)) (by omega)
              ·
                have hc160b := hc160
                try simp only [decide_eq_true_eq, decide_eq_false_iff_not, Bool.not_eq_true', Bool.not_eq_false', Bool.and_eq_true, Bool.or_eq_true, Int.not_lt, Int.not_le, ne_eq, Decidable.not_not] at hc160
                refine wp_skip ?_
                refine hK157 _ _ ?_
                refine wp_seq_k (fun K161 hK161 => ?_)
                refine wp_region_lit ?_
                refine l_e rfl (fun K hK => ?_)
                refine e_call (by kernel_rfl) (alive4_ok _) rfl (after_R hS156 (fun v162 w162 hv162 hS162 => ?_))
                clear hS156
                obtain rfl := hv162
                refine hK _ _ ?_; clear hK K
                refine l_q rfl rfl (q_moveB rfl) ?_
                refine l_on rfl rfl rfl ?_
                refine l_q rfl rfl (q_moveI rfl) ?_
                refine l_on rfl rfl rfl ?_
                refine l_q rfl rfl (q_eql rfl rfl) ?_
                refine l_q rfl rfl (q_pickT rfl rfl rfl) ?_
                refine l_q rfl rfl (q_moveB rfl) ?_
                refine l_on rfl rfl (by decide) ?_
                refine l_q rfl rfl (q_moveI rfl) ?_
                refine l_on rfl rfl (by decide) ?_
                refine l_q rfl rfl (q_eql rfl rfl) ?_
                refine l_q rfl rfl (q_pickT rfl (by decide) rfl) ?_
                refine l_q rfl rfl (q_moveB rfl) ?_
                refine l_on rfl rfl (decide_eq_true (by rw [hdx])) ?_
                refine l_q rfl rfl (q_moveB rfl) ?_
                refine l_q rfl rfl (q_pickT rfl (decide_eq_true (by rw [hdx])) rfl) ?_
                refine l_q rfl rfl (q_assignB rfl) ?_
                refine l_nil ?_
                refine hK161 _ _ ?_
                refine wp_ret ?_
                refine c_ret1 rfl rfl ?_
                exact ⟨_, rfl, congrArg Value.bool (decide_eq_true (by rw [hdx])), hS162.drop⟩
            ·
              have hg159b := hg159
              try simp only [decide_eq_true_eq, decide_eq_false_iff_not, Bool.not_eq_true', Bool.not_eq_false', Bool.and_eq_true, Bool.or_eq_true, Int.not_lt, Int.not_le, ne_eq, Decidable.not_not] at hg159
              refine l_off rfl rfl rfl hg159b ?_
              refine l_off rfl rfl rfl hg159b ?_
              refine l_off rfl rfl rfl hg159b ?_
              refine l_off rfl rfl rfl hg159b ?_
              refine l_off rfl rfl rfl hg159b ?_
              refine l_q rfl rfl (q_pickF rfl hg159b rfl) ?_
              refine l_nil ?_
              refine hK158 _ _ ?_
              refine c_condF rfl rfl ?_
              refine wp_skip ?_
              refine hK157 _ _ ?_
              refine wp_seq_k (fun K165 hK165 => ?_)
              refine wp_region_lit ?_
              refine l_e rfl (fun K hK => ?_)
              refine e_call (by kernel_rfl) (alive4_ok _) rfl (after_R hS156 (fun v166 w166 hv166 hS166 => ?_))
              clear hS156
              obtain rfl := hv166
              refine hK _ _ ?_; clear hK K
              refine l_q rfl rfl (q_moveB rfl) ?_
              refine l_on rfl rfl rfl ?_
              refine l_q rfl rfl (q_moveI rfl) ?_
              refine l_on rfl rfl rfl ?_
              refine l_q rfl rfl (q_eql rfl rfl) ?_
              refine l_q rfl rfl (q_pickT rfl rfl rfl) ?_
              refine l_q rfl rfl (q_moveB rfl) ?_
              refine l_on rfl rfl (by decide) ?_
              refine l_q rfl rfl (q_moveI rfl) ?_
              refine l_on rfl rfl (by decide) ?_
              refine l_q rfl rfl (q_eql rfl rfl) ?_
              refine l_q rfl rfl (q_pickT rfl (by decide) rfl) ?_
              refine l_q rfl rfl (q_moveB rfl) ?_
              refine l_on rfl rfl (decide_eq_true (by rw [hdx])) ?_
              refine l_q rfl rfl (q_moveB rfl) ?_
              refine l_q rfl rfl (q_pickT rfl (decide_eq_true (by rw [hdx])) rfl) ?_
              refine l_q rfl rfl (q_assignB rfl) ?_
              refine l_nil ?_
              refine hK165 _ _ ?_
              refine wp_ret ?_
              refine c_ret1 rfl rfl ?_
              exact ⟨_, rfl, congrArg Value.bool (decide_eq_true (by rw [hdx])), hS166.drop⟩

end Go.Proofs.YtcllmnepkglabaaDoor
