/- law04: KeyOrder, KeyOne. -/
import Derived.Test.YtcllmnepkglabaaDoorK7
import Derived.Test.YtcllmnepkglabaaDoorK8
set_option linter.unusedVariables false
set_option linter.unusedSimpArgs false
namespace Go.Proofs.YtcllmnepkglabaaDoor
open Go.RowKit
theorem ord_lt {L M : List Vl} (hL : RsOk L) (hM : RsOk M) : bl (enc L) (enc M) = decide (rcmp L M < 0) := by
  rw [enc_lt hL hM, Bool.eq_iff_iff, decide_eq_true_iff]; exact rcmp_neg.symm
theorem ord_eq {L M : List Vl} (hL : RsOk L) (hM : RsOk M) : decide (enc L = enc M) = decide (rcmp L M = 0) :=
  decide_eq_decide.2 ⟨fun h => rcmp_zero.2 (enc_inj hM hL h), fun h => by rw [rcmp_zero.1 h]⟩
theorem RsOk.one {a : Vl} (h : VOk a) (hr : rightB a = true) : RsOk [a] := ⟨VsOk.one h, fun v hv => by rw [List.mem_singleton] at hv; subst hv; exact hr⟩
theorem RsOk.app {l m : List Vl} (h : RsOk l) (h' : RsOk m) : RsOk (l ++ m) := ⟨h.1.app h'.1, fun v hv => (List.mem_append.1 hv).elim (h.2 v) (h'.2 v)⟩
theorem one_lt {a b : Vl} (ha : RsOk [a]) (hb : RsOk [b]) : bl (enc [a]) (enc [b]) = decide (vcmp a b < 0) := by
  rw [ord_lt ha hb]
  refine decide_eq_decide.2 ?_
  show (if vcmp a b = 0 then rcmp [] [] else vcmp a b) < 0 ↔ _
  by_cases h : vcmp a b = 0
  · rw [if_pos h, h]; exact Iff.rfl
  · rw [if_neg h]
theorem two_lt {L : List Vl} {a b : Vl} (ha : RsOk [a]) (hb : RsOk [b]) : bl (enc (L ++ [a])) (enc (L ++ [b])) = decide (vcmp a b < 0) := by
  rw [enc_app, enc_app, bl_pre, one_lt ha hb]
theorem one_pre {a b : Vl} (ha : RsOk [a]) (hb : RsOk [b]) : ((enc [a]).length ≤ (enc [b]).length ∧ (enc [b]).take (enc [a]).length = enc [a]) ↔ vcmp a b = 0 := by
  constructor
  · rintro ⟨_, h⟩
    have h2 : enc [b] = enc [a] ++ (enc [b]).drop (enc [a]).length := by
      have := List.take_append_drop (enc [a]).length (enc [b])
      rw [h] at this; exact this.symm
    obtain ⟨m, h3, _⟩ := enc_pre ha hb h2
    exact vcmp_zero.2 (List.cons.inj h3).1.symm
  · intro h
    rw [vcmp_zero.1 h]; simp
theorem beg_1 {x y : List Nat} {z : Int} (h : (x.length ≤ y.length ∧ y.take x.length = x) ↔ z = 0) (h1 : x.length ≤ y.length) : (decide (y.take x.length = x) == decide (z = 0)) = true := by
  rw [beq_iff_eq]; exact decide_eq_decide.2 ⟨fun h2 => h.1 ⟨h1, h2⟩, fun h2 => (h.2 h2).2⟩
theorem beg_2 {x y : List Nat} {z : Int} (h : (x.length ≤ y.length ∧ y.take x.length = x) ↔ z = 0) (h1 : ¬x.length ≤ y.length) : (false == decide (z = 0)) = true := by
  rw [beq_iff_eq]; exact (decide_eq_false fun h2 => h1 (h.2 h2).1).symm
attribute [local irreducible] Oper.wp Sem.run Code.wp wpList wpAnyO callFunc execOp Calls
attribute [local irreducible] enc encR rightB toU encV nxB nxN fewB rightL vls vlt
attribute [local irreducible] cmpZ cmB orL vcmp rcmp

set_option maxRecDepth 100000 in
theorem korder_ok (L M : List Vl) (hL : VsOk L) (hM : VsOk M) (al am : Option Addr) (cl cm : Nat) (hLm : L.length ≤ 9223372036854775807) (hMm : M.length ≤ 9223372036854775807) (w : World) (hG : SlG (hw w) al (List.flatMap vl L)) (hGm : SlG (hw w) am (List.flatMap vl M)) : Calls Tryd.prog 6 #[.slice al L.length cl, .slice am M.length cm] w (PostR w fun v => v = .bool true) := by
  have hS := St.start w
  refine c_enter Tryd.func6 rfl rfl rfl ?_
  refine wp_seq_k (fun K1 hK1 => ?_)
  refine wp_region_lit ?_
  refine l_q rfl rfl (q_assignB rfl) ?_
  refine l_nil ?_
  refine hK1 _ _ ?_
  refine wp_seq_k (fun K2 hK2 => ?_)
  refine wp_region_lit ?_
  refine l_q rfl rfl (q_moveS rfl) ?_
  refine l_e rfl (fun K hK => ?_)
  refine e_call (by kernel_rfl) (few_ok L hL L.length (by first | omega | (simp only [List.length_append, List.length_map, List.length_cons, List.length_nil, List.length_take, List.length_drop, List.length_set] <;> omega)) _ _ _ (hG.mono hS.base)) rfl (after_R hS (fun v3 w3 hv3 hS3 => ?_))
  clear hS
  obtain rfl := hv3
  refine hK _ _ ?_; clear hK K
  refine l_q rfl rfl (q_assignB rfl) ?_
  refine l_nil ?_
  refine hK2 _ _ ?_
  refine wp_seq_k (fun K4 hK4 => ?_)
  refine wp_region_lit ?_
  refine l_q rfl rfl (q_moveS rfl) ?_
  refine l_e rfl (fun K hK => ?_)
  refine e_call (by kernel_rfl) (few_ok M hM M.length (by first | omega | (simp only [List.length_append, List.length_map, List.length_cons, List.length_nil, List.length_take, List.length_drop, List.length_set] <;> omega)) _ _ _ (hGm.mono hS3.base)) rfl (after_R hS3 (fun v5 w5 hv5 hS5 => ?_))
  clear hS3
  obtain rfl := hv5
  refine hK _ _ ?_; clear hK K
  refine l_q rfl rfl (q_assignB rfl) ?_
  refine l_nil ?_
  refine hK4 _ _ ?_
  refine wp_seq_k (fun K6 hK6 => ?_)
  refine wp_region_lit ?_
  refine l_q rfl rfl (q_moveS rfl) ?_
  refine l_e rfl (fun K hK => ?_)
  refine e_call (by kernel_rfl) (rightl_ok L hL L.length (by first | omega | (simp only [List.length_append, List.length_map, List.length_cons, List.length_nil, List.length_take, List.length_drop, List.length_set] <;> omega)) _ _ (by first | omega | (simp only [List.length_append, List.length_map, List.length_cons, List.length_nil, List.length_take, List.length_drop, List.length_set] <;> omega)) _ (hG.mono hS5.base)) rfl (after_R hS5 (fun v7 w7 hv7 hS7 => ?_))
  clear hS5
  obtain rfl := hv7
  refine hK _ _ ?_; clear hK K
  refine l_q rfl rfl (q_assignB rfl) ?_
  refine l_nil ?_
  refine hK6 _ _ ?_
  refine wp_seq_k (fun K8 hK8 => ?_)
  refine wp_region_lit ?_
  refine l_q rfl rfl (q_moveS rfl) ?_
  refine l_e rfl (fun K hK => ?_)
  refine e_call (by kernel_rfl) (rightl_ok M hM M.length (by first | omega | (simp only [List.length_append, List.length_map, List.length_cons, List.length_nil, List.length_take, List.length_drop, List.length_set] <;> omega)) _ _ (by first | omega | (simp only [List.length_append, List.length_map, List.length_cons, List.length_nil, List.length_take, List.length_drop, List.length_set] <;> omega)) _ (hGm.mono hS7.base)) rfl (after_R hS7 (fun v9 w9 hv9 hS9 => ?_))
  clear hS7
  obtain rfl := hv9
  refine hK _ _ ?_; clear hK K
  refine l_q rfl rfl (q_assignB rfl) ?_
  refine l_nil ?_
  refine hK8 _ _ ?_
  refine wp_seq_k (fun K10 hK10 => ?_)
  refine wp_seq_k (fun K11 hK11 => ?_)
  refine wp_region_lit ?_
  refine l_q rfl rfl (q_moveB rfl) ?_
  refine l_q rfl rfl (q_not rfl) ?_
  refine l_q rfl rfl (q_moveB rfl) ?_
  refine g_splitL (t := 24) rfl (fun hg12 => ?_) (fun hg12 => ?_)
  ·
    have hg12b := hg12
    try simp only [decide_eq_true_eq, decide_eq_false_iff_not, Bool.not_eq_true', Bool.not_eq_false', Bool.and_eq_true, Bool.or_eq_true, Int.not_lt, Int.not_le, ne_eq, Decidable.not_not] at hg12
    refine l_off rfl rfl rfl hg12b ?_
    refine l_off rfl rfl rfl hg12b ?_
    refine l_q rfl rfl (q_pickT rfl hg12b rfl) ?_
    refine l_q rfl rfl (q_moveB rfl) ?_
    refine l_off rfl rfl rfl rfl ?_
    refine l_off rfl rfl rfl rfl ?_
    refine l_q rfl rfl (q_pickT rfl rfl rfl) ?_
    refine l_q rfl rfl (q_moveB rfl) ?_
    refine l_off rfl rfl rfl rfl ?_
    refine l_off rfl rfl rfl rfl ?_
    refine l_q rfl rfl (q_pickT rfl rfl rfl) ?_
    refine l_nil ?_
    refine hK11 _ _ ?_
    refine c_condT rfl rfl ?_
    refine wp_seq_k (fun K14 hK14 => ?_)
    refine wp_region_lit ?_
    refine l_e rfl (fun K hK => ?_)
    refine e_call (by kernel_rfl) (alive4_ok _) rfl (after_R hS9 (fun v15 w15 hv15 hS15 => ?_))
    clear hS9
    obtain rfl := hv15
    refine hK _ _ ?_; clear hK K
    refine l_q rfl rfl (q_assignB rfl) ?_
    refine l_nil ?_
    refine hK14 _ _ ?_
    refine wp_ret ?_
    refine c_ret1 rfl rfl ?_
    exact ⟨_, rfl, rfl, hS15.drop⟩
  ·
    have hg12b := hg12
    try simp only [decide_eq_true_eq, decide_eq_false_iff_not, Bool.not_eq_true', Bool.not_eq_false', Bool.and_eq_true, Bool.or_eq_true, Int.not_lt, Int.not_le, ne_eq, Decidable.not_not] at hg12
    refine l_on rfl rfl hg12b ?_
    refine l_q rfl rfl (q_moveB rfl) ?_
    refine l_on rfl rfl hg12b ?_
    refine l_q rfl rfl (q_not rfl) ?_
    refine l_q rfl rfl (q_pickF rfl hg12b rfl) ?_
    refine l_q rfl rfl (q_moveB rfl) ?_
    refine g_splitL (t := 28) rfl (fun hg16 => ?_) (fun hg16 => ?_)
    ·
      have hg16b := hg16
      try simp only [decide_eq_true_eq, decide_eq_false_iff_not, Bool.not_eq_true', Bool.not_eq_false', Bool.and_eq_true, Bool.or_eq_true, Int.not_lt, Int.not_le, ne_eq, Decidable.not_not] at hg16
      refine l_off rfl rfl rfl hg16b ?_
      refine l_off rfl rfl rfl hg16b ?_
      refine l_q rfl rfl (q_pickT rfl hg16b rfl) ?_
      refine l_q rfl rfl (q_moveB rfl) ?_
      refine l_off rfl rfl rfl rfl ?_
      refine l_off rfl rfl rfl rfl ?_
      refine l_q rfl rfl (q_pickT rfl rfl rfl) ?_
      refine l_nil ?_
      refine hK11 _ _ ?_
      refine c_condT rfl rfl ?_
      refine wp_seq_k (fun K18 hK18 => ?_)
      refine wp_region_lit ?_
      refine l_e rfl (fun K hK => ?_)
      refine e_call (by kernel_rfl) (alive4_ok _) rfl (after_R hS9 (fun v19 w19 hv19 hS19 => ?_))
      clear hS9
      obtain rfl := hv19
      refine hK _ _ ?_; clear hK K
      refine l_q rfl rfl (q_assignB rfl) ?_
      refine l_nil ?_
      refine hK18 _ _ ?_
      refine wp_ret ?_
      refine c_ret1 rfl rfl ?_
      exact ⟨_, rfl, rfl, hS19.drop⟩
    ·
      have hg16b := hg16
      try simp only [decide_eq_true_eq, decide_eq_false_iff_not, Bool.not_eq_true', Bool.not_eq_false', Bool.and_eq_true, Bool.or_eq_true, Int.not_lt, Int.not_le, ne_eq, Decidable.not_not] at hg16
      refine l_on rfl rfl hg16b ?_
      refine l_q rfl rfl (q_moveB rfl) ?_
      refine l_on rfl rfl hg16b ?_
      refine l_q rfl rfl (q_not rfl) ?_
      refine l_q rfl rfl (q_pickF rfl hg16b rfl) ?_
      refine l_q rfl rfl (q_moveB rfl) ?_
      refine g_splitL (t := 32) rfl (fun hg20 => ?_) (fun hg20 => ?_)
      ·
        have hg20b := hg20
        try simp only [decide_eq_true_eq, decide_eq_false_iff_not, Bool.not_eq_true', Bool.not_eq_false', Bool.and_eq_true, Bool.or_eq_true, Int.not_lt, Int.not_le, ne_eq, Decidable.not_not] at hg20
        refine l_off rfl rfl rfl hg20b ?_
        refine l_off rfl rfl rfl hg20b ?_
        refine l_q rfl rfl (q_pickT rfl hg20b rfl) ?_
        refine l_nil ?_
        refine hK11 _ _ ?_
        refine c_condT rfl rfl ?_
        refine wp_seq_k (fun K22 hK22 => ?_)
        refine wp_region_lit ?_
        refine l_e rfl (fun K hK => ?_)
        refine e_call (by kernel_rfl) (alive4_ok _) rfl (after_R hS9 (fun v23 w23 hv23 hS23 => ?_))
        clear hS9
        obtain rfl := hv23
        refine hK _ _ ?_; clear hK K
        refine l_q rfl rfl (q_assignB rfl) ?_
        refine l_nil ?_
        refine hK22 _ _ ?_
        refine wp_ret ?_
        refine c_ret1 rfl rfl ?_
        exact ⟨_, rfl, rfl, hS23.drop⟩
      ·
        have hg20b := hg20
        try simp only [decide_eq_true_eq, decide_eq_false_iff_not, Bool.not_eq_true', Bool.not_eq_false', Bool.and_eq_true, Bool.or_eq_true, Int.not_lt, Int.not_le, ne_eq, Decidable.not_not] at hg20
        refine l_on rfl rfl hg20b ?_
        refine l_q rfl rfl (q_moveB rfl) ?_
        refine l_on rfl rfl hg20b ?_
        refine l_q rfl rfl (q_not rfl) ?_
        refine l_q rfl rfl (q_pickF rfl hg20b rfl) ?_
        refine l_nil ?_
        refine hK11 _ _ ?_
        refine c_cond rfl (fun hc24 => ?_) (fun hc24 => ?_)
        ·
          have hc24b := hc24
          try simp only [decide_eq_true_eq, decide_eq_false_iff_not, Bool.not_eq_true', Bool.not_eq_false', Bool.and_eq_true, Bool.or_eq_true, Int.not_lt, Int.not_le, ne_eq, Decidable.not_not] at hc24
          refine wp_seq_k (fun K25 hK25 => ?_)
          refine wp_region_lit ?_
          refine l_e rfl (fun K hK => ?_)
          refine e_call (by kernel_rfl) (alive4_ok _) rfl (after_R hS9 (fun v26 w26 hv26 hS26 => ?_))
          clear hS9
          obtain rfl := hv26
          refine hK _ _ ?_; clear hK K
          refine l_q rfl rfl (q_assignB rfl) ?_
          refine l_nil ?_
          refine hK25 _ _ ?_
          refine wp_ret ?_
          refine c_ret1 rfl rfl ?_
          exact ⟨_, rfl, rfl, hS26.drop⟩
        ·
          have hc24b := hc24
          try simp only [decide_eq_true_eq, decide_eq_false_iff_not, Bool.not_eq_true', Bool.not_eq_false', Bool.and_eq_true, Bool.or_eq_true, Int.not_lt, Int.not_le, ne_eq, Decidable.not_not] at hc24
          have hfl : fewB L = true := by assumption
          have hfm : fewB M = true := by assumption
          have hrl : rightL L = true := by assumption
          have hrm : rightL M = true := by assumption
          have hRL := rs_of hL hrl
          have hRM := rs_of hM hrm
          have hL16 := (rightL_le hrl).1
          have hM16 := (rightL_le hrm).1
          have hlt := ord_lt hRL hRM
          have heq := ord_eq hRL hRM
          refine wp_skip ?_
          refine hK10 _ _ ?_
          refine wp_seq_k (fun K27 hK27 => ?_)
          refine wp_region_lit ?_
          refine l_q rfl rfl (q_moveS rfl) ?_
          refine l_e rfl (fun K hK => ?_)
          have hel28 := enc_len hRL.2
          refine e_call (by kernel_rfl) (ency_ok L hRL hL16 L.length (by first | omega | (simp only [List.length_append, List.length_map, List.length_cons, List.length_nil, List.length_take, List.length_drop, List.length_set] <;> omega)) _ _ _ (hG.mono hS9.base)) rfl (after_N hS9 (fun v28 G28 w28 hv28 hS28 => ?_))
          clear hS9
          obtain ⟨oa28, oc28, rfl, rfl⟩ := hv28
          have hS29 : St _ _ [.ow 5 1 oa28 ((enc L).length) oc28 (bv (enc L))] _ := hS28; clear hS28
          refine hK _ _ ?_; clear hK K
          refine l_q rfl rfl (q_move rfl) ?_
          refine l_q rfl rfl (q_extract rfl rfl) ?_
          refine l_q rfl rfl (q_extract rfl rfl) ?_
          refine l_q rfl rfl (q_assignS rfl) ?_
          refine l_q rfl rfl (q_assignI rfl) ?_
          refine l_nil ?_
          refine hK27 _ _ ?_
          refine wp_seq_k (fun K30 hK30 => ?_)
          refine wp_region_lit ?_
          refine l_q rfl rfl (q_moveS rfl) ?_
          refine l_e rfl (fun K hK => ?_)
          have hel31 := enc_len hRM.2
          refine e_call (by kernel_rfl) (ency_ok M hRM hM16 M.length (by first | omega | (simp only [List.length_append, List.length_map, List.length_cons, List.length_nil, List.length_take, List.length_drop, List.length_set] <;> omega)) _ _ _ (hGm.mono hS29.base)) rfl (after_N hS29 (fun v31 G31 w31 hv31 hS31 => ?_))
          clear hS29
          obtain ⟨oa31, oc31, rfl, rfl⟩ := hv31
          have hS32 : St _ _ [.ow 5 1 oa31 ((enc M).length) oc31 (bv (enc M)), .ow 5 1 oa28 ((enc L).length) oc28 (bv (enc L))] _ := hS31; clear hS31
          refine hK _ _ ?_; clear hK K
          refine l_q rfl rfl (q_move rfl) ?_
          refine l_q rfl rfl (q_extract rfl rfl) ?_
          refine l_q rfl rfl (q_extract rfl rfl) ?_
          refine l_q rfl rfl (q_assignS rfl) ?_
          refine l_q rfl rfl (q_assignI rfl) ?_
          refine l_nil ?_
          refine hK30 _ _ ?_
          refine wp_seq_k (fun K33 hK33 => ?_)
          refine wp_region_lit ?_
          refine l_q rfl rfl (q_moveS rfl) ?_
          refine l_q rfl rfl (q_moveS rfl) ?_
          refine l_e rfl (fun K hK => ?_)
          refine e_call (by kernel_rfl) (rows_ok L M hL hM _ _ _ _ (by first | omega | (simp only [List.length_append, List.length_map, List.length_cons, List.length_nil, List.length_take, List.length_drop, List.length_set] <;> omega)) _ (hG.mono hS32.base) (hGm.mono hS32.base)) rfl (after_R hS32 (fun v34 w34 hv34 hS34 => ?_))
          clear hS32
          obtain rfl := hv34
          refine hK _ _ ?_; clear hK K
          refine l_q rfl rfl (q_assignI rfl) ?_
          refine l_nil ?_
          refine hK33 _ _ ?_
          refine wp_seq_k (fun K35 hK35 => ?_)
          refine wp_region_lit ?_
          refine l_e rfl (fun K hK => ?_)
          refine e_call (by kernel_rfl) (alive4_ok _) rfl (after_R hS34 (fun v36 w36 hv36 hS36 => ?_))
          clear hS34
          obtain rfl := hv36
          refine hK _ _ ?_; clear hK K
          refine l_q rfl rfl (q_moveB rfl) ?_
          refine l_on rfl rfl rfl ?_
          refine l_q rfl rfl (q_moveI rfl) ?_
          refine l_on rfl rfl rfl ?_
          refine l_q rfl rfl (q_eql rfl rfl) ?_
          refine l_q rfl rfl (q_pickT rfl rfl rfl) ?_
          refine l_q rfl rfl (q_moveB rfl) ?_
          refine l_on rfl rfl (by decide) ?_
          refine l_q rfl rfl (q_moveI rfl) ?_
          refine l_on rfl rfl (by decide) ?_
          refine l_q rfl rfl (q_eql rfl rfl) ?_
          refine l_q rfl rfl (q_pickT rfl (by decide) rfl) ?_
          refine l_q rfl rfl (q_moveB rfl) ?_
          refine l_on rfl rfl (by decide) ?_
          refine l_q rfl rfl (q_moveS rfl) ?_
          refine l_on rfl rfl (by decide) ?_
          refine l_q rfl rfl (q_convBS (l := (enc L)) rfl (hS36.owG (i := 1) rfl) (by first | omega | (simp only [List.length_append, List.length_map, List.length_cons, List.length_nil, List.length_take, List.length_drop, List.length_set] <;> omega)) (by kernel_rfl) (by kernel_rfl)) ?_
          refine l_on rfl rfl (by decide) ?_
          refine l_q rfl rfl (q_moveS rfl) ?_
          refine l_on rfl rfl (by decide) ?_
          refine l_q rfl rfl (q_convBS (l := (enc M)) rfl (hS36.owG (i := 0) rfl) (by first | omega | (simp only [List.length_append, List.length_map, List.length_cons, List.length_nil, List.length_take, List.length_drop, List.length_set] <;> omega)) (by kernel_rfl) (by kernel_rfl)) ?_
          refine l_on rfl rfl (by decide) ?_
          refine l_q rfl rfl (q_str_lss (l := (enc L)) (m := (enc M)) rfl rfl (enc_bytes hRL.1) (enc_bytes hRM.1)) ?_
          refine l_on rfl rfl (by decide) ?_
          refine l_q rfl rfl (q_moveI rfl) ?_
          refine l_on rfl rfl (by decide) ?_
          refine l_q rfl rfl (q_lss rfl rfl) ?_
          refine l_on rfl rfl (by decide) ?_
          refine l_q rfl rfl (q_bool_eql rfl rfl (by kernel_rfl)) ?_
          refine l_q rfl rfl (q_pickT rfl (by decide) rfl) ?_
          refine l_q rfl rfl (q_moveB rfl) ?_
          refine l_on rfl rfl (beq_iff_eq.2 hlt) ?_
          refine l_q rfl rfl (q_moveS rfl) ?_
          refine l_on rfl rfl (beq_iff_eq.2 hlt) ?_
          refine l_q rfl rfl (q_convBS (l := (enc L)) rfl (hS36.owG (i := 1) rfl) (by first | omega | (simp only [List.length_append, List.length_map, List.length_cons, List.length_nil, List.length_take, List.length_drop, List.length_set] <;> omega)) (by kernel_rfl) (by kernel_rfl)) ?_
          refine l_on rfl rfl (beq_iff_eq.2 hlt) ?_
          refine l_q rfl rfl (q_moveS rfl) ?_
          refine l_on rfl rfl (beq_iff_eq.2 hlt) ?_
          refine l_q rfl rfl (q_convBS (l := (enc M)) rfl (hS36.owG (i := 0) rfl) (by first | omega | (simp only [List.length_append, List.length_map, List.length_cons, List.length_nil, List.length_take, List.length_drop, List.length_set] <;> omega)) (by kernel_rfl) (by kernel_rfl)) ?_
          refine l_on rfl rfl (beq_iff_eq.2 hlt) ?_
          refine l_q rfl rfl (q_str_eql (l := (enc L)) (m := (enc M)) rfl rfl (enc_bytes hRL.1) (enc_bytes hRM.1)) ?_
          refine l_on rfl rfl (beq_iff_eq.2 hlt) ?_
          refine l_q rfl rfl (q_moveI rfl) ?_
          refine l_on rfl rfl (beq_iff_eq.2 hlt) ?_
          refine l_q rfl rfl (q_eql rfl rfl) ?_
          refine l_on rfl rfl (beq_iff_eq.2 hlt) ?_
          refine l_q rfl rfl (q_bool_eql rfl rfl (by kernel_rfl)) ?_
          refine l_q rfl rfl (q_pickT rfl (beq_iff_eq.2 hlt) rfl) ?_
          refine l_q rfl rfl (q_assignB rfl) ?_
          refine l_nil ?_
          refine hK35 _ _ ?_
          refine wp_ret ?_
          refine c_ret1 rfl rfl ?_
          exact ⟨_, rfl, congrArg Value.bool (beq_iff_eq.2 heq), hS36.drop⟩

end Go.Proofs.YtcllmnepkglabaaDoor
