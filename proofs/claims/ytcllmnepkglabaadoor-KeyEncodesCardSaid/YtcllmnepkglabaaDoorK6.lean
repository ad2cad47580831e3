/- law04: KeyNext. -/
import Derived.Test.YtcllmnepkglabaaDoorK5
set_option linter.unusedVariables false
set_option linter.unusedSimpArgs false
namespace Go.Proofs.YtcllmnepkglabaaDoor
open Go.RowKit
theorem next_take {b c : List Nat} (hc : Bytes c) : (bl c b = false ∧ (nxB b = [] ∨ bl c (nxB b) = true)) ↔ (b.length ≤ c.length ∧ c.take b.length = b) := by
  rw [next_in hc]
  constructor
  · rintro ⟨r, rfl⟩
    refine ⟨by simp, by simp⟩
  · rintro ⟨_, h⟩
    exact ⟨c.drop b.length, by have := List.take_append_drop b.length c; rw [h] at this; exact this.symm⟩
theorem leaf1 {b c : List Nat} (h : (bl c b = false ∧ (nxB b = [] ∨ bl c (nxB b) = true)) ↔ (b.length ≤ c.length ∧ c.take b.length = b)) (h1 : b.length ≤ c.length) (h2 : bl c b = false) (h3 : (nxB b).length ≠ 0) : (bl c (nxB b) == decide (c.take b.length = b)) = true := by
  rw [beq_iff_eq, Bool.eq_iff_iff, decide_eq_true_iff]
  have h4 : nxB b ≠ [] := fun h => h3 (by rw [h]; rfl)
  exact ⟨fun h5 => (h.1 ⟨h2, .inr h5⟩).2, fun h5 => (h.2 ⟨h1, h5⟩).2.resolve_left h4⟩
theorem leaf2 {b c : List Nat} (h : (bl c b = false ∧ (nxB b = [] ∨ bl c (nxB b) = true)) ↔ (b.length ≤ c.length ∧ c.take b.length = b)) (h1 : ¬b.length ≤ c.length) (h2 : bl c b = false) (h3 : ¬(nxB b).length = 0) : (bl c (nxB b) == false) = true := by
  rw [beq_iff_eq]
  cases h5 : bl c (nxB b) with
  | false => rfl
  | true => exact absurd (h.1 ⟨h2, .inr h5⟩).1 h1
theorem leaf3 {b c : List Nat} {x y : Bool} (h : (bl c b = false ∧ (nxB b = [] ∨ bl c (nxB b) = true)) ↔ (b.length ≤ c.length ∧ c.take b.length = b)) (h1 : ¬b.length ≤ c.length ∧ (nxB b).length = 0) (h2 : bl c b = false) : x = y :=
  absurd (h.1 ⟨h2, .inl (List.eq_nil_of_length_eq_zero h1.2)⟩).1 h1.1
attribute [local irreducible] Oper.wp Sem.run Code.wp wpList wpAnyO callFunc execOp Calls
attribute [local irreducible] enc encR rightB toU encV nxB nxN fewB rightL

set_option maxRecDepth 100000 in
theorem knext_ok (b c : List Nat) (hb : Bytes b) (hc : Bytes c) (ab ac : Option Addr) (cb cc : Nat) (hcb : b.length ≤ cb) (hcc : c.length ≤ cc) (w : World) (hGb : SlG (hw w) ab (bv b)) (hGc : SlG (hw w) ac (bv c)) : Calls Tryd.prog 4 #[.slice ab b.length cb, .slice ac c.length cc] w (PostR w fun v => v = .bool true) := by
  have hS := St.start w
  refine c_enter Tryd.func4 rfl rfl rfl ?_
  refine wp_seq_k (fun K1 hK1 => ?_)
  refine wp_region_lit ?_
  refine l_q rfl rfl (q_assignB rfl) ?_
  refine l_nil ?_
  refine hK1 _ _ ?_
  refine wp_seq_k (fun K2 hK2 => ?_)
  refine wp_seq_k (fun K3 hK3 => ?_)
  refine wp_region_lit ?_
  refine l_q rfl rfl (q_moveS rfl) ?_
  refine l_q rfl rfl (q_lenSl (e := 5) rfl (by kernel_rfl)) ?_
  refine l_q rfl rfl (q_gtr rfl rfl) ?_
  refine l_q rfl rfl (q_moveB rfl) ?_
  refine g_splitL (t := 12) rfl (fun hg4 => ?_) (fun hg4 => ?_)
  ·
    have hg4b := hg4
    try simp only [decide_eq_true_eq, decide_eq_false_iff_not, Bool.not_eq_true', Bool.not_eq_false', Bool.and_eq_true, Bool.or_eq_true, Int.not_lt, Int.not_le, ne_eq, Decidable.not_not] at hg4
    refine l_off rfl rfl rfl hg4b ?_
    refine l_off rfl rfl rfl hg4b ?_
    refine l_off rfl rfl rfl hg4b ?_
    refine l_q rfl rfl (q_pickT rfl hg4b rfl) ?_
    refine l_nil ?_
    refine hK3 _ _ ?_
    refine c_condT rfl rfl ?_
    refine wp_seq_k (fun K6 hK6 => ?_)
    refine wp_region_lit ?_
    refine l_e rfl (fun K hK => ?_)
    refine e_call (by kernel_rfl) (alive4_ok _) rfl (after_R hS (fun v7 w7 hv7 hS7 => ?_))
    clear hS
    obtain rfl := hv7
    refine hK _ _ ?_; clear hK K
    refine l_q rfl rfl (q_assignB rfl) ?_
    refine l_nil ?_
    refine hK6 _ _ ?_
    refine wp_ret ?_
    refine c_ret1 rfl rfl ?_
    exact ⟨_, rfl, rfl, hS7.drop⟩
  ·
    have hg4b := hg4
    try simp only [decide_eq_true_eq, decide_eq_false_iff_not, Bool.not_eq_true', Bool.not_eq_false', Bool.and_eq_true, Bool.or_eq_true, Int.not_lt, Int.not_le, ne_eq, Decidable.not_not] at hg4
    refine l_on rfl rfl hg4b ?_
    refine l_q rfl rfl (q_moveS rfl) ?_
    refine l_on rfl rfl hg4b ?_
    refine l_q rfl rfl (q_lenSl (e := 5) rfl (by kernel_rfl)) ?_
    refine l_on rfl rfl hg4b ?_
    refine l_q rfl rfl (q_gtr rfl rfl) ?_
    refine l_q rfl rfl (q_pickF rfl hg4b rfl) ?_
    refine l_nil ?_
    refine hK3 _ _ ?_
    refine c_cond rfl (fun hc8 => ?_) (fun hc8 => ?_)
    ·
      have hc8b := hc8
      try simp only [decide_eq_true_eq, decide_eq_false_iff_not, Bool.not_eq_true', Bool.not_eq_false', Bool.and_eq_true, Bool.or_eq_true, Int.not_lt, Int.not_le, ne_eq, Decidable.not_not] at hc8
      refine wp_seq_k (fun K9 hK9 => ?_)
      refine wp_region_lit ?_
      refine l_e rfl (fun K hK => ?_)
      refine e_call (by kernel_rfl) (alive4_ok _) rfl (after_R hS (fun v10 w10 hv10 hS10 => ?_))
      clear hS
      obtain rfl := hv10
      refine hK _ _ ?_; clear hK K
      refine l_q rfl rfl (q_assignB rfl) ?_
      refine l_nil ?_
      refine hK9 _ _ ?_
      refine wp_ret ?_
      refine c_ret1 rfl rfl ?_
      exact ⟨_, rfl, rfl, hS10.drop⟩
    ·
      have hc8b := hc8
      try simp only [decide_eq_true_eq, decide_eq_false_iff_not, Bool.not_eq_true', Bool.not_eq_false', Bool.and_eq_true, Bool.or_eq_true, Int.not_lt, Int.not_le, ne_eq, Decidable.not_not] at hc8
      refine wp_skip ?_
      refine hK2 _ _ ?_
      refine wp_seq_k (fun K11 hK11 => ?_)
      refine wp_region_lit ?_
      refine l_q rfl rfl (q_moveS rfl) ?_
      refine l_e rfl (fun K hK => ?_)
      refine e_call (by kernel_rfl) (next_ok b hb b.length (by first | omega | (simp only [List.length_append, List.length_map, List.length_cons, List.length_nil, List.length_take, List.length_drop, List.length_set] <;> omega)) (by first | omega | (simp only [List.length_append, List.length_map, List.length_cons, List.length_nil, List.length_take, List.length_drop, List.length_set] <;> omega)) _ _ (by first | omega | (simp only [List.length_append, List.length_map, List.length_cons, List.length_nil, List.length_take, List.length_drop, List.length_set] <;> omega)) _ (hGb.mono hS.base)) rfl (after_N hS (fun v12 G12 w12 hv12 hS12 => ?_))
      clear hS
      obtain ⟨oa12, oc12, rfl, rfl⟩ := hv12
      have hS13 : St _ _ [.ow 5 1 oa12 ((nxB b).length) oc12 (bv (nxB b))] _ := hS12; clear hS12
      refine hK _ _ ?_; clear hK K
      refine l_q rfl rfl (q_assignS rfl) ?_
      refine l_nil ?_
      refine hK11 _ _ ?_
      refine wp_seq_k (fun K14 hK14 => ?_)
      refine wp_region_lit ?_
      refine l_q rfl rfl (q_moveS rfl) ?_
      refine l_e rfl (fun K hK => ?_)
      refine e_call (by kernel_rfl) (rnext_ok b hb b.length (by first | omega | (simp only [List.length_append, List.length_map, List.length_cons, List.length_nil, List.length_take, List.length_drop, List.length_set] <;> omega)) (by first | omega | (simp only [List.length_append, List.length_map, List.length_cons, List.length_nil, List.length_take, List.length_drop, List.length_set] <;> omega)) _ _ (by first | omega | (simp only [List.length_append, List.length_map, List.length_cons, List.length_nil, List.length_take, List.length_drop, List.length_set] <;> omega)) _ (hGb.mono hS13.base)) rfl (after_N hS13 (fun v15 G15 w15 hv15 hS15 => ?_))
      clear hS13
      obtain ⟨oa15, oc15, rfl, rfl⟩ := hv15
      have hS16 : St _ _ [.ow 5 1 oa15 ((nxB b).length) oc15 (bv (nxB b)), .ow 5 1 oa12 ((nxB b).length) oc12 (bv (nxB b))] _ := hS15; clear hS15
      refine hK _ _ ?_; clear hK K
      refine l_q rfl rfl (q_assignS rfl) ?_
      refine l_nil ?_
      refine hK14 _ _ ?_
      refine wp_seq_k (fun K17 hK17 => ?_)
      refine wp_seq_k (fun K18 hK18 => ?_)
      refine wp_region_lit ?_
      refine l_q rfl rfl (q_moveS rfl) ?_
      refine l_q rfl rfl (q_convBS (l := (nxB b)) rfl (hS16.owG (i := 1) rfl) (by first | omega | (simp only [List.length_append, List.length_map, List.length_cons, List.length_nil, List.length_take, List.length_drop, List.length_set] <;> omega)) (by kernel_rfl) (by kernel_rfl)) ?_
      refine l_q rfl rfl (q_moveS rfl) ?_
      refine l_q rfl rfl (q_convBS (l := (nxB b)) rfl (hS16.owG (i := 0) rfl) (by first | omega | (simp only [List.length_append, List.length_map, List.length_cons, List.length_nil, List.length_take, List.length_drop, List.length_set] <;> omega)) (by kernel_rfl) (by kernel_rfl)) ?_
      refine l_q rfl rfl (q_str_neq (l := (nxB b)) (m := (nxB b)) rfl rfl (nxB_bytes hb) (nxB_bytes hb)) ?_
      refine l_nil ?_
      refine hK18 _ _ ?_
      refine c_cond rfl (fun hc19 => ?_) (fun hc19 => ?_)
      ·
        have hc19b := hc19
        try simp only [decide_eq_true_eq, decide_eq_false_iff_not, Bool.not_eq_true', Bool.not_eq_false', Bool.and_eq_true, Bool.or_eq_true, Int.not_lt, Int.not_le, ne_eq, Decidable.not_not] at hc19
        simp at hc19
      ·
        have hc19b := hc19
        try simp only [decide_eq_true_eq, decide_eq_false_iff_not, Bool.not_eq_true', Bool.not_eq_false', Bool.and_eq_true, Bool.or_eq_true, Int.not_lt, Int.not_le, ne_eq, Decidable.not_not] at hc19
        refine wp_skip ?_
        refine hK17 _ _ ?_
        refine wp_seq_k (fun K20 hK20 => ?_)
        refine r_any (by kernel_rfl) hS16 (fun w21 hS21 => ?_)
        clear hS16
        refine o_pure (i := 0) (fun _ _ => trivial) rfl rfl (by kernel_rfl) (goes0 rfl) (QOk.then QOk.body) (fun w => q_moveS rfl) ?_
        refine o_pure (i := 1) (fun _ _ => trivial) rfl rfl (by kernel_rfl) (goes0 rfl) (QOk.then QOk.body) (fun w => q_lenSl (e := 5) rfl (by kernel_rfl)) ?_
        refine o_pure (i := 2) (fun _ _ => trivial) rfl rfl (by kernel_rfl) (goes0 rfl) (QOk.then QOk.body) (fun w => q_moveS rfl) ?_
        refine o_pure (i := 3) (fun _ _ => trivial) rfl rfl (by kernel_rfl) (goes0 rfl) (QOk.then QOk.body) (fun w => q_lenSl (e := 5) rfl (by kernel_rfl)) ?_
        refine o_pure (i := 4) (fun _ _ => trivial) rfl rfl (by kernel_rfl) (goes0 rfl) (QOk.then QOk.body) (fun w => q_geq rfl rfl) ?_
        refine o_pure (i := 5) (fun _ _ => trivial) rfl rfl (by kernel_rfl) (goes0 rfl) (QOk.then QOk.body) (fun w => q_moveB rfl) ?_
        refine g_splitO (t := 32) rfl (fun hg22 => ?_) (fun hg22 => ?_)
        ·
          have hg22b := hg22
          try simp only [decide_eq_true_eq, decide_eq_false_iff_not, Bool.not_eq_true', Bool.not_eq_false', Bool.and_eq_true, Bool.or_eq_true, Int.not_lt, Int.not_le, ne_eq, Decidable.not_not] at hg22
          refine o_pure (i := 6) (fun _ _ => trivial) rfl rfl (by kernel_rfl) (goes1 rfl rfl hg22b) (QOk.then QOk.body) (fun w => q_moveS rfl) ?_
          refine o_pure (i := 7) (fun _ _ => trivial) rfl rfl (by kernel_rfl) (goes1 rfl rfl hg22b) (QOk.then QOk.body) (fun w => q_moveS rfl) ?_
          refine o_pure (i := 8) (fun _ _ => trivial) rfl rfl (by kernel_rfl) (goes1 rfl rfl hg22b) (QOk.then QOk.body) (fun w => q_lenSl (e := 5) rfl (by kernel_rfl)) ?_
          refine o_pure (i := 9) (fun _ _ => trivial) rfl rfl (by kernel_rfl) (goes1 rfl rfl hg22b) (QOk.then QOk.body) (fun w => q_sliceX (e := 5) (size := 1) (l := 0) (h := b.length) (m := cc) (ad' := ac) (len' := b.length) (cap' := cc) rfl (by kernel_rfl) (by kernel_rfl) rfl ⟨_, int_nat (by first | rfl | omega) rfl⟩ rfl (by omega) (by first | omega | (simp only [List.length_append, List.length_map, List.length_cons, List.length_nil, List.length_take, List.length_drop, List.length_set] <;> omega)) (by first | omega | (simp only [List.length_append, List.length_map, List.length_cons, List.length_nil, List.length_take, List.length_drop, List.length_set] <;> omega)) rfl subS_zero (Nat.sub_zero _) (Nat.sub_zero _)) ?_
          refine o_held (i := 10) [13, 14, 15] (fun _ _ => trivial) rfl rfl (by kernel_rfl) (goes1 rfl rfl hg22b) (QOk.then QOk.body) (q_convBS (l := (c.take b.length)) rfl ((bv_takeG hGc).mono hS21.base) (by first | omega | (simp only [List.length_append, List.length_map, List.length_cons, List.length_nil, List.length_take, List.length_drop, List.length_set] <;> omega)) (by kernel_rfl) (by kernel_rfl)) ?_
          refine o_pure (i := 11) (fun j w => ⟨(fun _ _ => trivial) j w, fun _ h => h⟩) rfl rfl (by kernel_rfl) (goes1 rfl rfl hg22b) (QOk.then QOk.body) (fun w => q_moveS rfl) ?_
          refine o_held (i := 12) [13, 14, 15] (fun j w => ⟨(fun _ _ => trivial) j w, fun _ h => h⟩) rfl rfl (by kernel_rfl) (goes1 rfl rfl hg22b) (QOk.then QOk.body) (q_convBS (l := b) rfl (hGb.mono hS21.base) (by first | omega | (simp only [List.length_append, List.length_map, List.length_cons, List.length_nil, List.length_take, List.length_drop, List.length_set] <;> omega)) (by kernel_rfl) (by kernel_rfl)) ?_
          refine o_pure (i := 13) (fun j w => ⟨(fun j w => ⟨(fun _ _ => trivial) j w, fun _ h => h⟩) j w, fun _ h => h⟩) rfl rfl (by kernel_rfl) (goes1 rfl rfl hg22b) (QOk.then QOk.body) (fun w => q_str_eql (l := (c.take b.length)) (m := b) rfl rfl (Bytes.take hc) hb) ?_
          refine o_pure (i := 14) (fun j w => ⟨(fun j w => ⟨(fun _ _ => trivial) j w, fun _ h => h⟩) j w, fun _ h => h⟩) rfl rfl (by kernel_rfl) (goes0 rfl) (QOk.then QOk.body) (fun w => q_pickT rfl hg22b rfl) ?_
          refine o_pure (i := 15) (fun j w => ⟨(fun j w => ⟨(fun _ _ => trivial) j w, fun _ h => h⟩) j w, fun _ h => h⟩) rfl rfl (by kernel_rfl) (goes0 rfl) (QOk.then QOk.body) (fun w => q_assignB rfl) ?_
          refine o_done (by kernel_rfl) ?_
          refine hK20 _ _ ?_
          refine wp_seq_k (fun K23 hK23 => ?_)
          refine wp_region_lit ?_
          refine l_q rfl rfl (q_moveS rfl) ?_
          refine l_q rfl rfl (q_convBS (l := c) rfl (hGc.mono hS21.base) (by first | omega | (simp only [List.length_append, List.length_map, List.length_cons, List.length_nil, List.length_take, List.length_drop, List.length_set] <;> omega)) (by kernel_rfl) (by kernel_rfl)) ?_
          refine l_q rfl rfl (q_moveS rfl) ?_
          refine l_q rfl rfl (q_convBS (l := b) rfl (hGb.mono hS21.base) (by first | omega | (simp only [List.length_append, List.length_map, List.length_cons, List.length_nil, List.length_take, List.length_drop, List.length_set] <;> omega)) (by kernel_rfl) (by kernel_rfl)) ?_
          refine l_q rfl rfl (q_str_geq (l := c) (m := b) rfl rfl hc hb) ?_
          refine l_q rfl rfl (q_moveB rfl) ?_
          refine g_splitL (t := 47) rfl (fun hg24 => ?_) (fun hg24 => ?_)
          ·
            have hg24b := hg24
            try simp only [decide_eq_true_eq, decide_eq_false_iff_not, Bool.not_eq_true', Bool.not_eq_false', Bool.and_eq_true, Bool.or_eq_true, Int.not_lt, Int.not_le, ne_eq, Decidable.not_not] at hg24
            refine l_on rfl rfl hg24b ?_
            refine l_q rfl rfl (q_moveS rfl) ?_
            refine l_on rfl rfl hg24b ?_
            refine l_q rfl rfl (q_lenSl (e := 5) rfl (by kernel_rfl)) ?_
            refine l_on rfl rfl hg24b ?_
            refine l_q rfl rfl (q_eql rfl rfl) ?_
            refine l_on rfl rfl hg24b ?_
            refine l_q rfl rfl (q_moveB rfl) ?_
            refine g_splitL (t := 51) rfl (fun hg25 => ?_) (fun hg25 => ?_)
            ·
              have hg25b := hg25
              try simp only [decide_eq_true_eq, decide_eq_false_iff_not, Bool.not_eq_true', Bool.not_eq_false', Bool.and_eq_true, Bool.or_eq_true, Int.not_lt, Int.not_le, ne_eq, Decidable.not_not] at hg25
              refine l_off rfl rfl rfl hg25b ?_
              refine l_off rfl rfl rfl hg25b ?_
              refine l_off rfl rfl rfl hg25b ?_
              refine l_off rfl rfl rfl hg25b ?_
              refine l_off rfl rfl rfl hg25b ?_
              refine l_on rfl rfl hg24b ?_
              refine l_q rfl rfl (q_pickT rfl hg25b rfl) ?_
              refine l_q rfl rfl (q_pickT rfl hg24b rfl) ?_
              refine l_q rfl rfl (q_assignB rfl) ?_
              refine l_nil ?_
              refine hK23 _ _ ?_
              refine wp_seq_k (fun K26 hK26 => ?_)
              refine wp_region_lit ?_
              refine l_e rfl (fun K hK => ?_)
              refine e_call (by kernel_rfl) (alive4_ok _) rfl (after_R hS21 (fun v27 w27 hv27 hS27 => ?_))
              clear hS21
              obtain rfl := hv27
              refine hK _ _ ?_; clear hK K
              refine l_q rfl rfl (q_moveB rfl) ?_
              refine l_on rfl rfl rfl ?_
              refine l_q rfl rfl (q_moveB rfl) ?_
              refine l_on rfl rfl rfl ?_
              refine l_q rfl rfl (q_moveB rfl) ?_
              refine l_on rfl rfl rfl ?_
              refine l_q rfl rfl (q_bool_eql rfl rfl (by kernel_rfl)) ?_
              refine l_q rfl rfl (q_pickT rfl rfl rfl) ?_
              refine l_q rfl rfl (q_assignB rfl) ?_
              refine l_nil ?_
              refine hK26 _ _ ?_
              refine wp_ret ?_
              refine c_ret1 rfl rfl ?_
              have hni := next_take (b := b) hc
              exact ⟨_, rfl, congrArg Value.bool (by first | (simp_all; done) | exact leaf1 hni (by omega) (by assumption) (by omega) | exact leaf2 hni (by omega) (by assumption) (by omega) | exact leaf3 hni (by omega) (by assumption)), hS27.drop⟩
            ·
              have hg25b := hg25
              try simp only [decide_eq_true_eq, decide_eq_false_iff_not, Bool.not_eq_true', Bool.not_eq_false', Bool.and_eq_true, Bool.or_eq_true, Int.not_lt, Int.not_le, ne_eq, Decidable.not_not] at hg25
              refine l_on rfl rfl hg25b ?_
              refine l_q rfl rfl (q_moveS rfl) ?_
              refine l_on rfl rfl hg25b ?_
              refine l_q rfl rfl (q_convBS (l := c) rfl (hGc.mono hS21.base) (by first | omega | (simp only [List.length_append, List.length_map, List.length_cons, List.length_nil, List.length_take, List.length_drop, List.length_set] <;> omega)) (by kernel_rfl) (by kernel_rfl)) ?_
              refine l_on rfl rfl hg25b ?_
              refine l_q rfl rfl (q_moveS rfl) ?_
              refine l_on rfl rfl hg25b ?_
              refine l_q rfl rfl (q_convBS (l := (nxB b)) rfl (hS21.owG (i := 1) rfl) (by first | omega | (simp only [List.length_append, List.length_map, List.length_cons, List.length_nil, List.length_take, List.length_drop, List.length_set] <;> omega)) (by kernel_rfl) (by kernel_rfl)) ?_
              refine l_on rfl rfl hg25b ?_
              refine l_q rfl rfl (q_str_lss (l := c) (m := (nxB b)) rfl rfl hc (nxB_bytes hb)) ?_
              refine l_on rfl rfl hg24b ?_
              refine l_q rfl rfl (q_pickF rfl hg25b rfl) ?_
              refine l_q rfl rfl (q_pickT rfl hg24b rfl) ?_
              refine l_q rfl rfl (q_assignB rfl) ?_
              refine l_nil ?_
              refine hK23 _ _ ?_
              refine wp_seq_k (fun K28 hK28 => ?_)
              refine wp_region_lit ?_
              refine l_e rfl (fun K hK => ?_)
              refine e_call (by kernel_rfl) (alive4_ok _) rfl (after_R hS21 (fun v29 w29 hv29 hS29 => ?_))
              clear hS21
              obtain rfl := hv29
              refine hK _ _ ?_; clear hK K
              refine l_q rfl rfl (q_moveB rfl) ?_
              refine l_on rfl rfl rfl ?_
              refine l_q rfl rfl (q_moveB rfl) ?_
              refine l_on rfl rfl rfl ?_
              refine l_q rfl rfl (q_moveB rfl) ?_
              refine l_on rfl rfl rfl ?_
              refine l_q rfl rfl (q_bool_eql rfl rfl (by kernel_rfl)) ?_
              refine l_q rfl rfl (q_pickT rfl rfl rfl) ?_
              refine l_q rfl rfl (q_assignB rfl) ?_
              refine l_nil ?_
              refine hK28 _ _ ?_
              refine wp_ret ?_
              refine c_ret1 rfl rfl ?_
              have hni := next_take (b := b) hc
              exact ⟨_, rfl, congrArg Value.bool (by first | (simp_all; done) | exact leaf1 hni (by omega) (by assumption) (by omega) | exact leaf2 hni (by omega) (by assumption) (by omega) | exact leaf3 hni (by omega) (by assumption)), hS29.drop⟩
          ·
            have hg24b := hg24
            try simp only [decide_eq_true_eq, decide_eq_false_iff_not, Bool.not_eq_true', Bool.not_eq_false', Bool.and_eq_true, Bool.or_eq_true, Int.not_lt, Int.not_le, ne_eq, Decidable.not_not] at hg24
            refine l_off rfl rfl rfl hg24b ?_
            refine l_off rfl rfl rfl hg24b ?_
            refine l_off rfl rfl rfl hg24b ?_
            refine l_off rfl rfl rfl hg24b ?_
            refine l_offN rfl rfl rfl ?_
            refine l_offN rfl rfl rfl ?_
            refine l_offN rfl rfl rfl ?_
            refine l_offN rfl rfl rfl ?_
            refine l_offN rfl rfl rfl ?_
            refine l_off rfl rfl rfl hg24b ?_
            refine l_q rfl rfl (q_pickF rfl hg24b rfl) ?_
            refine l_q rfl rfl (q_assignB rfl) ?_
            refine l_nil ?_
            refine hK23 _ _ ?_
            refine wp_seq_k (fun K30 hK30 => ?_)
            refine wp_region_lit ?_
            refine l_e rfl (fun K hK => ?_)
            refine e_call (by kernel_rfl) (alive4_ok _) rfl (after_R hS21 (fun v31 w31 hv31 hS31 => ?_))
            clear hS21
            obtain rfl := hv31
            refine hK _ _ ?_; clear hK K
            refine l_q rfl rfl (q_moveB rfl) ?_
            refine l_on rfl rfl rfl ?_
            refine l_q rfl rfl (q_moveB rfl) ?_
            refine l_on rfl rfl rfl ?_
            refine l_q rfl rfl (q_moveB rfl) ?_
            refine l_on rfl rfl rfl ?_
            refine l_q rfl rfl (q_bool_eql rfl rfl (by kernel_rfl)) ?_
            refine l_q rfl rfl (q_pickT rfl rfl rfl) ?_
            refine l_q rfl rfl (q_assignB rfl) ?_
            refine l_nil ?_
            refine hK30 _ _ ?_
            refine wp_ret ?_
            refine c_ret1 rfl rfl ?_
            have hni := next_take (b := b) hc
            exact ⟨_, rfl, congrArg Value.bool (by first | (simp_all; done) | exact leaf1 hni (by omega) (by assumption) (by omega) | exact leaf2 hni (by omega) (by assumption) (by omega) | exact leaf3 hni (by omega) (by assumption)), hS31.drop⟩
        ·
          have hg22b := hg22
          try simp only [decide_eq_true_eq, decide_eq_false_iff_not, Bool.not_eq_true', Bool.not_eq_false', Bool.and_eq_true, Bool.or_eq_true, Int.not_lt, Int.not_le, ne_eq, Decidable.not_not] at hg22
          refine o_off (i := 6) (fun _ _ => trivial) rfl rfl (by kernel_rfl) rfl rfl hg22b (QOk.then QOk.body) ?_
          refine o_off (i := 7) (fun _ _ => trivial) rfl rfl (by kernel_rfl) rfl rfl hg22b (QOk.then QOk.body) ?_
          refine o_off (i := 8) (fun _ _ => trivial) rfl rfl (by kernel_rfl) rfl rfl hg22b (QOk.then QOk.body) ?_
          refine o_off (i := 9) (fun _ _ => trivial) rfl rfl (by kernel_rfl) rfl rfl hg22b (QOk.then QOk.body) ?_
          refine o_off (i := 10) (fun _ _ => trivial) rfl rfl (by kernel_rfl) rfl rfl hg22b (QOk.then QOk.body) ?_
          refine o_off (i := 11) (fun _ _ => trivial) rfl rfl (by kernel_rfl) rfl rfl hg22b (QOk.then QOk.body) ?_
          refine o_off (i := 12) (fun _ _ => trivial) rfl rfl (by kernel_rfl) rfl rfl hg22b (QOk.then QOk.body) ?_
          refine o_off (i := 13) (fun _ _ => trivial) rfl rfl (by kernel_rfl) rfl rfl hg22b (QOk.then QOk.body) ?_
          refine o_pure (i := 14) (fun _ _ => trivial) rfl rfl (by kernel_rfl) (goes0 rfl) (QOk.then QOk.body) (fun w => q_pickF rfl hg22b rfl) ?_
          refine o_pure (i := 15) (fun _ _ => trivial) rfl rfl (by kernel_rfl) (goes0 rfl) (QOk.then QOk.body) (fun w => q_assignB rfl) ?_
          refine o_done (by kernel_rfl) ?_
          refine hK20 _ _ ?_
          refine wp_seq_k (fun K32 hK32 => ?_)
          refine wp_region_lit ?_
          refine l_q rfl rfl (q_moveS rfl) ?_
          refine l_q rfl rfl (q_convBS (l := c) rfl (hGc.mono hS21.base) (by first | omega | (simp only [List.length_append, List.length_map, List.length_cons, List.length_nil, List.length_take, List.length_drop, List.length_set] <;> omega)) (by kernel_rfl) (by kernel_rfl)) ?_
          refine l_q rfl rfl (q_moveS rfl) ?_
          refine l_q rfl rfl (q_convBS (l := b) rfl (hGb.mono hS21.base) (by first | omega | (simp only [List.length_append, List.length_map, List.length_cons, List.length_nil, List.length_take, List.length_drop, List.length_set] <;> omega)) (by kernel_rfl) (by kernel_rfl)) ?_
          refine l_q rfl rfl (q_str_geq (l := c) (m := b) rfl rfl hc hb) ?_
          refine l_q rfl rfl (q_moveB rfl) ?_
          refine g_splitL (t := 47) rfl (fun hg33 => ?_) (fun hg33 => ?_)
          ·
            have hg33b := hg33
            try simp only [decide_eq_true_eq, decide_eq_false_iff_not, Bool.not_eq_true', Bool.not_eq_false', Bool.and_eq_true, Bool.or_eq_true, Int.not_lt, Int.not_le, ne_eq, Decidable.not_not] at hg33
            refine l_on rfl rfl hg33b ?_
            refine l_q rfl rfl (q_moveS rfl) ?_
            refine l_on rfl rfl hg33b ?_
            refine l_q rfl rfl (q_lenSl (e := 5) rfl (by kernel_rfl)) ?_
            refine l_on rfl rfl hg33b ?_
            refine l_q rfl rfl (q_eql rfl rfl) ?_
            refine l_on rfl rfl hg33b ?_
            refine l_q rfl rfl (q_moveB rfl) ?_
            refine g_splitL (t := 51) rfl (fun hg34 => ?_) (fun hg34 => ?_)
            ·
              have hg34b := hg34
              try simp only [decide_eq_true_eq, decide_eq_false_iff_not, Bool.not_eq_true', Bool.not_eq_false', Bool.and_eq_true, Bool.or_eq_true, Int.not_lt, Int.not_le, ne_eq, Decidable.not_not] at hg34
              refine l_off rfl rfl rfl hg34b ?_
              refine l_off rfl rfl rfl hg34b ?_
              refine l_off rfl rfl rfl hg34b ?_
              refine l_off rfl rfl rfl hg34b ?_
              refine l_off rfl rfl rfl hg34b ?_
              refine l_on rfl rfl hg33b ?_
              refine l_q rfl rfl (q_pickT rfl hg34b rfl) ?_
              refine l_q rfl rfl (q_pickT rfl hg33b rfl) ?_
              refine l_q rfl rfl (q_assignB rfl) ?_
              refine l_nil ?_
              refine hK32 _ _ ?_
              refine wp_seq_k (fun K35 hK35 => ?_)
              refine wp_region_lit ?_
              refine l_e rfl (fun K hK => ?_)
              refine e_call (by kernel_rfl) (alive4_ok _) rfl (after_R hS21 (fun v36 w36 hv36 hS36 => ?_))
              clear hS21
              obtain rfl := hv36
              refine hK _ _ ?_; clear hK K
              refine l_q rfl rfl (q_moveB rfl) ?_
              refine l_on rfl rfl rfl ?_
              refine l_q rfl rfl (q_moveB rfl) ?_
              refine l_on rfl rfl rfl ?_
              refine l_q rfl rfl (q_moveB rfl) ?_
              refine l_on rfl rfl rfl ?_
              refine l_q rfl rfl (q_bool_eql rfl rfl (by kernel_rfl)) ?_
              refine l_q rfl rfl (q_pickT rfl rfl rfl) ?_
              refine l_q rfl rfl (q_assignB rfl) ?_
              refine l_nil ?_
              refine hK35 _ _ ?_
              refine wp_ret ?_
              refine c_ret1 rfl rfl ?_
              have hni := next_take (b := b) hc
              exact ⟨_, rfl, congrArg Value.bool (by first | (simp_all; done) | exact leaf1 hni (by omega) (by assumption) (by omega) | exact leaf2 hni (by omega) (by assumption) (by omega) | exact leaf3 hni (by omega) (by assumption)), hS36.drop⟩
            ·
              have hg34b := hg34
              try simp only [decide_eq_true_eq, decide_eq_false_iff_not, Bool.not_eq_true', Bool.not_eq_false', Bool.and_eq_true, Bool.or_eq_true, Int.not_lt, Int.not_le, ne_eq, Decidable.not_not] at hg34
              refine l_on rfl rfl hg34b ?_
              refine l_q rfl rfl (q_moveS rfl) ?_
              refine l_on rfl rfl hg34b ?_
              refine l_q rfl rfl (q_convBS (l := c) rfl (hGc.mono hS21.base) (by first | omega | (simp only [List.length_append, List.length_map, List.length_cons, List.length_nil, List.length_take, List.length_drop, List.length_set] <;> omega)) (by kernel_rfl) (by kernel_rfl)) ?_
              refine l_on rfl rfl hg34b ?_
              refine l_q rfl rfl (q_moveS rfl) ?_
              refine l_on rfl rfl hg34b ?_
              refine l_q rfl rfl (q_convBS (l := (nxB b)) rfl (hS21.owG (i := 1) rfl) (by first | omega | (simp only [List.length_append, List.length_map, List.length_cons, List.length_nil, List.length_take, List.length_drop, List.length_set] <;> omega)) (by kernel_rfl) (by kernel_rfl)) ?_
              refine l_on rfl rfl hg34b ?_
              refine l_q rfl rfl (q_str_lss (l := c) (m := (nxB b)) rfl rfl hc (nxB_bytes hb)) ?_
              refine l_on rfl rfl hg33b ?_
              refine l_q rfl rfl (q_pickF rfl hg34b rfl) ?_
              refine l_q rfl rfl (q_pickT rfl hg33b rfl) ?_
              refine l_q rfl rfl (q_assignB rfl) ?_
              refine l_nil ?_
              refine hK32 _ _ ?_
              refine wp_seq_k (fun K37 hK37 => ?_)
              refine wp_region_lit ?_
              refine l_e rfl (fun K hK => ?_)
              refine e_call (by kernel_rfl) (alive4_ok _) rfl (after_R hS21 (fun v38 w38 hv38 hS38 => ?_))
              clear hS21
              obtain rfl := hv38
              refine hK _ _ ?_; clear hK K
              refine l_q rfl rfl (q_moveB rfl) ?_
              refine l_on rfl rfl rfl ?_
              refine l_q rfl rfl (q_moveB rfl) ?_
              refine l_on rfl rfl rfl ?_
              refine l_q rfl rfl (q_moveB rfl) ?_
              refine l_on rfl rfl rfl ?_
              refine l_q rfl rfl (q_bool_eql rfl rfl (by kernel_rfl)) ?_
              refine l_q rfl rfl (q_pickT rfl rfl rfl) ?_
              refine l_q rfl rfl (q_assignB rfl) ?_
              refine l_nil ?_
              refine hK37 _ _ ?_
              refine wp_ret ?_
              refine c_ret1 rfl rfl ?_
              have hni := next_take (b := b) hc
              exact ⟨_, rfl, congrArg Value.bool (by first | (simp_all; done) | exact leaf1 hni (by omega) (by assumption) (by omega) | exact leaf2 hni (by omega) (by assumption) (by omega) | exact leaf3 hni (by omega) (by assumption)), hS38.drop⟩
          ·
            have hg33b := hg33
            try simp only [decide_eq_true_eq, decide_eq_false_iff_not, Bool.not_eq_true', Bool.not_eq_false', Bool.and_eq_true, Bool.or_eq_true, Int.not_lt, Int.not_le, ne_eq, Decidable.not_not] at hg33
            refine l_off rfl rfl rfl hg33b ?_
            refine l_off rfl rfl rfl hg33b ?_
            refine l_off rfl rfl rfl hg33b ?_
            refine l_off rfl rfl rfl hg33b ?_
            refine l_offN rfl rfl rfl ?_
            refine l_offN rfl rfl rfl ?_
            refine l_offN rfl rfl rfl ?_
            refine l_offN rfl rfl rfl ?_
            refine l_offN rfl rfl rfl ?_
            refine l_off rfl rfl rfl hg33b ?_
            refine l_q rfl rfl (q_pickF rfl hg33b rfl) ?_
            refine l_q rfl rfl (q_assignB rfl) ?_
            refine l_nil ?_
            refine hK32 _ _ ?_
            refine wp_seq_k (fun K39 hK39 => ?_)
            refine wp_region_lit ?_
            refine l_e rfl (fun K hK => ?_)
            refine e_call (by kernel_rfl) (alive4_ok _) rfl (after_R hS21 (fun v40 w40 hv40 hS40 => ?_))
            clear hS21
            obtain rfl := hv40
            refine hK _ _ ?_; clear hK K
            refine l_q rfl rfl (q_moveB rfl) ?_
            refine l_on rfl rfl rfl ?_
            refine l_q rfl rfl (q_moveB rfl) ?_
            refine l_on rfl rfl rfl ?_
            refine l_q rfl rfl (q_moveB rfl) ?_
            refine l_on rfl rfl rfl ?_
            refine l_q rfl rfl (q_bool_eql rfl rfl (by kernel_rfl)) ?_
            refine l_q rfl rfl (q_pickT rfl rfl rfl) ?_
            refine l_q rfl rfl (q_assignB rfl) ?_
            refine l_nil ?_
            refine hK39 _ _ ?_
            refine wp_ret ?_
            refine c_ret1 rfl rfl ?_
            have hni := next_take (b := b) hc
            exact ⟨_, rfl, congrArg Value.bool (by first | (simp_all; done) | exact leaf1 hni (by omega) (by assumption) (by omega) | exact leaf2 hni (by omega) (by assumption) (by omega) | exact leaf3 hni (by omega) (by assumption)), hS40.drop⟩

end Go.Proofs.YtcllmnepkglabaaDoor
