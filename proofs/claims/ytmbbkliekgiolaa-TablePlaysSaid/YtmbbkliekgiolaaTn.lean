/- law08: TablePlays. -/
import Derived.Test.YtmbbkliekgiolaaTm
set_option linter.unusedVariables false
set_option linter.unusedSimpArgs false
namespace Go.Proofs.Ytmbbkliekgiolaa
open Go.RowKit
attribute [local irreducible] Oper.wp Sem.run Code.wp wpList wpAnyO callFunc execOp Calls
attribute [local irreducible] cmpL putA getA dropA lastB ent inB rangeB pF fits LastR FindR

theorem bytes_mid {A B : List En} {a a2 : En} (h : ∀ x ∈ A ++ a :: B, Bytes x.rb ∧ x.rb.length ≤ 1000000) (h2 : Bytes a2.rb ∧ a2.rb.length ≤ 1000000) : ∀ x ∈ A ++ a2 :: B, Bytes x.rb ∧ x.rb.length ≤ 1000000 := fun x hx => by
  rcases List.mem_append.1 hx with hx | hx
  · exact h x (List.mem_append_left _ hx)
  · cases hx with
    | head => exact h2
    | tail _ hx => exact h x (List.mem_append_right _ (.tail _ hx))

set_option maxHeartbeats 4000000 in
set_option maxRecDepth 100000 in
theorem tablePlays_ok (S : List Ac8) (sa : Option Addr) (sc : Nat) (of : Of8) (hm0 : -9223372036854775808 ≤ of.most) (hm1 : of.most ≤ 9223372036854775807) (hoB : Bytes of.fb) (htB : Bytes of.tb) (w : World) (hSG : SlG (hw w) sa (List.flatMap ac8 S)) (hSo : ∀ a ∈ S, Ac8Ok (hw w) a) (hoG : SlG (hw w) of.fa (bv of.fb)) (htG : SlG (hw w) of.ta (bv of.tb)) : Calls Try.prog 8 #[.slice sa S.length sc, .agg (of8 of).toArray] w (PostR w fun v => v = .bool true) := by
  have hS := St.start w
  refine c_enter Try.func8 rfl rfl rfl ?_
  refine wp_seq_k (fun K1 hK1 => ?_)
  refine wp_region_lit ?_
  refine l_e rfl (fun K hK => ?_)
  refine e_boxA hS rfl (fun b2 w2 (hS2 : St _ _ [.blk b2 (.cells #[.slice of.fa of.fb.length of.fc, .slice of.ta of.tb.length of.tc, .int .i64 of.most] 65)] _) => ?_)
  clear hS
  refine hK _ _ ?_; clear hK K
  refine l_q rfl rfl (q_assignB rfl) ?_
  refine l_nil ?_
  refine hK1 _ _ ?_
  refine wp_seq_k (fun K3 hK3 => ?_)
  refine wp_region_lit ?_
  refine l_e rfl (fun K hK => ?_)
  have hS5 := hS2.fz0; clear hS2
  refine e_call (by kernel_rfl) (tnew_ok _) rfl (after_N hS5 (fun v4 G4 w4 hv4 hS4 => ?_))
  clear hS5
  obtain ⟨k4, rfl, rfl⟩ := hv4
  have hS6 : St _ _ [tb k4 none 0 ([] : List Pg), .fz (fun _ => none), .blk b2 (.cells #[.slice of.fa of.fb.length of.fc, .slice of.ta of.tb.length of.tc, .int .i64 of.most] 65)] _ := hS4; clear hS4
  have hT4 : TOk (fun _ => none) [] := TOk.nil
  have hfl4 : (flat ([] : List Pg)).length ≤ 0 := Nat.le_refl _
  refine hK _ _ ?_; clear hK K
  refine l_q rfl rfl (q_assignP rfl) ?_
  refine l_nil ?_
  refine hK3 _ _ ?_
  refine wp_seq_k (fun K7 hK7 => ?_)
  refine wp_seq_k (fun K8 hK8 => ?_)
  refine wp_region_lit ?_
  refine l_q rfl rfl (q_moveP rfl) ?_
  refine l_q rfl rfl (q_peq rfl (by kernel_rfl)) ?_
  refine l_nil ?_
  refine hK8 _ _ ?_
  refine c_condF rfl rfl ?_
  refine wp_skip ?_
  refine hK7 _ _ ?_
  refine wp_seq_k (fun K10 hK10 => ?_)
  refine wp_seq_k (fun K11 hK11 => ?_)
  refine wp_region_lit ?_
  refine l_q rfl rfl (q_fieldAddr (ft := 23) (o := 0) rfl (by kernel_rfl)) ?_
  refine l_q rfl rfl (q_load1 rfl (by kernel_rfl) (hS6.cell (i := 2) rfl rfl)) ?_
  refine l_q rfl rfl (q_lenSl (e := 5) rfl (by kernel_rfl)) ?_
  refine l_q rfl rfl (q_gtr rfl rfl) ?_
  refine l_q rfl rfl (q_moveB rfl) ?_
  refine g_splitL (t := 31) rfl (fun hg12 => ?_) (fun hg12 => ?_)
  ·
    have hg12b := hg12
    try simp only [decide_eq_true_eq, decide_eq_false_iff_not, Bool.not_eq_true', Bool.not_eq_false', Bool.and_eq_true, Bool.or_eq_true, Int.not_lt, Int.not_le, ne_eq, Decidable.not_not] at hg12
    refine l_off rfl rfl rfl hg12b ?_
    refine l_off rfl rfl rfl hg12b ?_
    refine l_off rfl rfl rfl hg12b ?_
    refine l_off rfl rfl rfl hg12b ?_
    refine l_q rfl rfl (q_pickT rfl hg12b rfl) ?_
    refine l_nil ?_
    refine hK11 _ _ ?_
    refine c_condT rfl rfl ?_
    refine wp_seq_k (fun K14 hK14 => ?_)
    refine wp_region_lit ?_
    refine l_e rfl (fun K hK => ?_)
    refine e_call (by kernel_rfl) (alive8_ok _) rfl (after_R hS6 (fun v15 w15 hv15 hS15 => ?_))
    clear hS6
    obtain rfl := hv15
    refine hK _ _ ?_; clear hK K
    refine l_q rfl rfl (q_assignB rfl) ?_
    refine l_nil ?_
    refine hK14 _ _ ?_
    refine wp_ret ?_
    refine c_ret1 rfl rfl ?_
    exact ⟨_, rfl, rfl, hS15.drop⟩
  ·
    have hg12b := hg12
    try simp only [decide_eq_true_eq, decide_eq_false_iff_not, Bool.not_eq_true', Bool.not_eq_false', Bool.and_eq_true, Bool.or_eq_true, Int.not_lt, Int.not_le, ne_eq, Decidable.not_not] at hg12
    refine l_on rfl rfl hg12b ?_
    refine l_q rfl rfl (q_fieldAddr (ft := 23) (o := 1) rfl (by kernel_rfl)) ?_
    refine l_on rfl rfl hg12b ?_
    refine l_q rfl rfl (q_load1 rfl (by kernel_rfl) (hS6.cell (i := 2) rfl rfl)) ?_
    refine l_on rfl rfl hg12b ?_
    refine l_q rfl rfl (q_lenSl (e := 5) rfl (by kernel_rfl)) ?_
    refine l_on rfl rfl hg12b ?_
    refine l_q rfl rfl (q_gtr rfl rfl) ?_
    refine l_q rfl rfl (q_pickF rfl hg12b rfl) ?_
    refine l_nil ?_
    refine hK11 _ _ ?_
    refine c_cond rfl (fun hc16 => ?_) (fun hc16 => ?_)
    ·
      have hc16b := hc16
      try simp only [decide_eq_true_eq, decide_eq_false_iff_not, Bool.not_eq_true', Bool.not_eq_false', Bool.and_eq_true, Bool.or_eq_true, Int.not_lt, Int.not_le, ne_eq, Decidable.not_not] at hc16
      refine wp_seq_k (fun K17 hK17 => ?_)
      refine wp_region_lit ?_
      refine l_e rfl (fun K hK => ?_)
      refine e_call (by kernel_rfl) (alive8_ok _) rfl (after_R hS6 (fun v18 w18 hv18 hS18 => ?_))
      clear hS6
      obtain rfl := hv18
      refine hK _ _ ?_; clear hK K
      refine l_q rfl rfl (q_assignB rfl) ?_
      refine l_nil ?_
      refine hK17 _ _ ?_
      refine wp_ret ?_
      refine c_ret1 rfl rfl ?_
      exact ⟨_, rfl, rfl, hS18.drop⟩
    ·
      have hc16b := hc16
      try simp only [decide_eq_true_eq, decide_eq_false_iff_not, Bool.not_eq_true', Bool.not_eq_false', Bool.and_eq_true, Bool.or_eq_true, Int.not_lt, Int.not_le, ne_eq, Decidable.not_not] at hc16
      have hof1 : of.fb.length ≤ 40 := by omega
      have hof2 : of.tb.length ≤ 40 := by omega
      refine wp_skip ?_
      refine hK10 _ _ ?_
      refine wp_seq_k (fun K19 hK19 => ?_)
      refine wp_region_lit ?_
      refine l_q rfl rfl (q_assignS rfl) ?_
      refine l_nil ?_
      refine hK19 _ _ ?_
      refine wp_seq_k (fun K20 hK20 => ?_)
      refine wp_seq_k (fun K21 hK21 => ?_)
      refine wp_region_lit ?_
      refine l_q rfl rfl (q_assignI rfl) ?_
      refine l_nil ?_
      refine hK21 _ _ ?_
      refine wp_block ?_
      have hS22 := hS6.ow_nil 36 2; clear hS6
      have hS23 := hS22.fr3; clear hS22
      have hS24 := hS23.fr1; clear hS23
      have hS25 := hS24.fr3; clear hS24
      have hS26 := hS25.fr3; clear hS25
      refine c_loop (τ := Nat × Nat × (Option Addr) × Nat × (List Pg) × Gh × (Option Addr) × Nat) [(4, 22), (38, 212)] (fun x => (fun (i : Nat) (k : Nat) (ad : Option Addr) (cap : Nat) (ps : List Pg) (g : Gh) (al : Option Addr) (cl : Nat) => [(7, .int .i64 ((i : Nat) : Int)), (5, .pointer (some ⟨k, 0, none⟩)), (6, .slice al ((ab ps).length) cl)]) x.1 x.2.1 x.2.2.1 x.2.2.2.1 x.2.2.2.2.1 x.2.2.2.2.2.1 x.2.2.2.2.2.2.1 x.2.2.2.2.2.2.2) (fun x w' => (fun (i : Nat) (k : Nat) (ad : Option Addr) (cap : Nat) (ps : List Pg) (g : Gh) (al : Option Addr) (cl : Nat) => St w (fun _ => False) [tb k ad cap ps, .fz g, .ow 36 2 al ((ab ps).length) cl (List.flatMap re (ab ps)), .blk b2 (.cells #[.slice of.fa of.fb.length of.fc, .slice of.ta of.tb.length of.tc, .int .i64 of.most] 65)] w' ∧ i ≤ S.length ∧ i ≤ 150 ∧ TOk g ps ∧ (flat ps).length ≤ i) x.1 x.2.1 x.2.2.1 x.2.2.2.1 x.2.2.2.2.1 x.2.2.2.2.2.1 x.2.2.2.2.2.2.1 x.2.2.2.2.2.2.2) (fun x => (fun (i : Nat) (k : Nat) (ad : Option Addr) (cap : Nat) (ps : List Pg) (g : Gh) (al : Option Addr) (cl : Nat) => S.length - i) x.1 x.2.1 x.2.2.1 x.2.2.2.1 x.2.2.2.2.1 x.2.2.2.2.2.1 x.2.2.2.2.2.2.1 x.2.2.2.2.2.2.2) (⟨0, k4, none, 0, [], (fun _ => none), none, 0⟩) ?_ (by repeat' (first | exact trivial | refine ⟨by first | rfl | exact int_succ _ | assumption, ?_⟩)) (fun x27 j27 w27 hJ27 K27 hK27 => ?_)
      ·
        exact ⟨hS26, Nat.zero_le _, Nat.zero_le _, TOk.nil, Nat.le_refl _⟩
      ·
        obtain ⟨i, k, ad, cap, ps, g, al, cl⟩ := x27
        obtain ⟨hS27, hi, hi2, hTl, hfl⟩ := hJ27
        try dsimp only at hS27 hi hi2 hTl hfl ⊢
        have hal : (ab ps).length ≤ 150 := by rw [ab_len]; omega
        have hln := ab_len ps
        refine wp_seq_k (fun K28 hK28 => ?_)
        refine wp_seq_k (fun K29 hK29 => ?_)
        refine wp_region_lit ?_
        refine l_q rfl rfl (q_moveI rfl) ?_
        refine l_q rfl rfl (q_moveS rfl) ?_
        refine l_q rfl rfl (q_lenSl (e := 67) rfl (by kernel_rfl)) ?_
        refine l_q rfl rfl (q_lss rfl rfl) ?_
        refine l_q rfl rfl (q_moveB rfl) ?_
        refine g_splitL (t := 42) rfl (fun hg30 => ?_) (fun hg30 => ?_)
        ·
          have hg30b := hg30
          try simp only [decide_eq_true_eq, decide_eq_false_iff_not, Bool.not_eq_true', Bool.not_eq_false', Bool.and_eq_true, Bool.or_eq_true, Int.not_lt, Int.not_le, ne_eq, Decidable.not_not] at hg30
          refine l_on rfl rfl hg30b ?_
          refine l_q rfl rfl (q_moveI rfl) ?_
          refine l_on rfl rfl hg30b ?_
          refine l_q rfl rfl (q_lss rfl rfl) ?_
          refine l_q rfl rfl (q_pickT rfl hg30b rfl) ?_
          refine l_nil ?_
          refine hK29 _ _ ?_
          refine c_cond rfl (fun hc31 => ?_) (fun hc31 => ?_)
          ·
            have hc31b := hc31
            try simp only [decide_eq_true_eq, decide_eq_false_iff_not, Bool.not_eq_true', Bool.not_eq_false', Bool.and_eq_true, Bool.or_eq_true, Int.not_lt, Int.not_le, ne_eq, Decidable.not_not] at hc31
            refine wp_skip ?_
            refine hK28 _ _ ?_
            refine wp_seq_k (fun K32 hK32 => ?_)
            refine wp_block ?_
            refine wp_seq_k (fun K33 hK33 => ?_)
            refine wp_region_lit ?_
            refine l_q rfl rfl (q_moveS rfl) ?_
            refine l_q rfl rfl (q_moveI rfl) ?_
            refine l_q rfl rfl (q_ixG (e := 67) (m := 3) (j := i) rfl rfl (by kernel_rfl) (by kernel_rfl) (by first | rfl | omega) (by omega) hSG (by rw [rows_len (c := ac8) (m := 3) (fun _ => rfl)]; first | omega | (simp only [List.length_append, List.length_map, List.length_cons, List.length_nil, List.length_take, List.length_drop, List.length_set] <;> omega))) ?_
            obtain ⟨x34, hx34⟩ : ∃ x, (S)[i]? = some x := ⟨_, List.getElem?_eq_getElem (by first | omega | (simp only [List.length_append, List.length_map, List.length_cons, List.length_nil, List.length_take, List.length_drop, List.length_set] <;> omega) | (simp <;> omega))⟩
            have hkr_x34 := (hSo x34 (List.mem_of_getElem? hx34)).1
            refine l_q rfl rfl (q_loadGA (m := 3) rfl (by kernel_rfl) (by kernel_rfl) (hSG.mono hS27.base) (row_take hx34 (c := ac8) (m := 3) (fun _ => rfl)) rfl (by decide)) ?_
            refine l_e rfl (fun K hK => ?_)
            refine e_alloc (zv := .agg #[.int .i64 0, .slice none 0 0, .slice none 0 0]) hS27 (by kernel_rfl) (fun b35 w35 (hS35 : St _ _ [.blk b35 (.cells #[.int .i64 (0 : Int), .slice none 0 0, .slice none 0 0] 67), tb k ad cap ps, .fz g, .ow 36 2 al ((ab ps).length) cl (List.flatMap re (ab ps)), .blk b2 (.cells #[.slice of.fa of.fb.length of.fc, .slice of.ta of.tb.length of.tc, .int .i64 of.most] 65)] _) => ?_)
            clear hS27
            refine hK _ _ ?_; clear hK K
            refine l_e rfl (fun K hK => ?_)
            refine e_storeA hS35 rfl rfl (by kernel_rfl) (by repeat' (first | exact trivial | refine ⟨by first | rfl | assumption | exact one_if (by assumption), ?_⟩)) (i := 0) rfl rfl (fun w36 (hS36 : St _ _ [.blk b35 (.cells #[.int .i64 x34.k, .slice x34.ka x34.kb.length x34.kc, .slice x34.ra x34.rb.length x34.rc] 67), tb k ad cap ps, .fz g, .ow 36 2 al ((ab ps).length) cl (List.flatMap re (ab ps)), .blk b2 (.cells #[.slice of.fa of.fb.length of.fc, .slice of.ta of.tb.length of.tc, .int .i64 of.most] 65)] _) => ?_)
            clear hS35
            refine hK _ _ ?_; clear hK K
            refine l_nil ?_
            refine hK33 _ _ ?_
            refine wp_seq_k (fun K37 hK37 => ?_)
            refine wp_region_lit ?_
            refine l_q rfl rfl (q_loadA (m := 3) rfl (by kernel_rfl) (by kernel_rfl) (hS36.blk (i := 0) rfl) rfl rfl) ?_
            refine l_e rfl (fun K hK => ?_)
            refine e_call (by kernel_rfl) (fits_ok x34 _) rfl (after_R hS36 (fun v38 w38 hv38 hS38 => ?_))
            clear hS36
            obtain rfl := hv38
            refine hK _ _ ?_; clear hK K
            refine l_q rfl rfl (q_assignB rfl) ?_
            refine l_nil ?_
            refine hK37 _ _ ?_
            refine wp_seq_k (fun K39 hK39 => ?_)
            refine wp_seq_k (fun K40 hK40 => ?_)
            refine wp_region_lit ?_
            refine l_q rfl rfl (q_moveB rfl) ?_
            refine l_q rfl rfl (q_not rfl) ?_
            refine l_nil ?_
            refine hK40 _ _ ?_
            refine c_cond rfl (fun hc41 => ?_) (fun hc41 => ?_)
            ·
              have hc41b := hc41
              try simp only [decide_eq_true_eq, decide_eq_false_iff_not, Bool.not_eq_true', Bool.not_eq_false', Bool.and_eq_true, Bool.or_eq_true, Int.not_lt, Int.not_le, ne_eq, Decidable.not_not] at hc41
              refine wp_exit ?_
              refine hK32 _ _ ?_
              refine wp_region_lit ?_
              refine l_q rfl rfl (q_moveI rfl) ?_
              refine l_q rfl rfl (q_addx rfl rfl (by first | decide | omega) (by first | decide | omega)) ?_
              refine l_q rfl rfl (q_assignI rfl) ?_
              refine l_nil ?_
              have hS42 := hS38.fr4; clear hS38
              have hS43 := hS42.fr4; clear hS42
              have hS44 := hS43.fr4; clear hS43
              have hS45 := hS44.fr4; clear hS44
              have hS46 : St _ _ [tb k ad cap ps, .fz g, .ow 36 2 al ((ab ps).length) cl (List.flatMap re (ab ps)), .blk b2 (.cells #[.slice of.fa of.fb.length of.fc, .slice of.ta of.tb.length of.tc, .int .i64 of.most] 65)] _ := hS45.only 4; clear hS45
              refine hK27 _ _ (came (⟨(i + 1), k, ad, cap, ps, g, al, cl⟩) (by repeat' (first | exact Agree.refl _ _ | refine Agree.up ?_ rfl | refine Agree.hav2 ?_ rfl | refine Agree.ups2 ?_ rfl)) (by repeat' (first | exact trivial | refine ⟨by first | rfl | exact int_succ _ | assumption, ?_⟩)) ?_)
              exact ⟨⟨hS46, (by show i + 1 ≤ S.length; omega), (by show i + 1 ≤ 150; omega), hTl, (by show (flat ps).length ≤ i + 1; omega)⟩, by (show S.length - (i + 1) < S.length - i); omega⟩
            ·
              have hc41b := hc41
              try simp only [decide_eq_true_eq, decide_eq_false_iff_not, Bool.not_eq_true', Bool.not_eq_false', Bool.and_eq_true, Bool.or_eq_true, Int.not_lt, Int.not_le, ne_eq, Decidable.not_not] at hc41
              have hfit : fits x34 = true := by first | exact hc41 | simpa using hc41
              obtain ⟨hk40, hr40⟩ := fits_le hfit
              refine wp_skip ?_
              refine hK39 _ _ ?_
              refine wp_seq_k (fun K47 hK47 => ?_)
              refine wp_region_lit ?_
              refine l_q rfl rfl (q_moveS rfl) ?_
              refine l_q rfl rfl (q_fieldAddr (ft := 23) (o := 1) rfl (by kernel_rfl)) ?_
              refine l_q rfl rfl (q_load1 rfl (by kernel_rfl) (hS38.cell (i := 0) rfl rfl)) ?_
              refine l_q rfl rfl (q_convBS (l := x34.kb) rfl ((hSo x34 (List.mem_of_getElem? hx34)).2.1.1.mono hS38.base) (by first | omega | (simp only [List.length_append, List.length_map, List.length_cons, List.length_nil, List.length_take, List.length_drop, List.length_set] <;> omega)) (by kernel_rfl) (by kernel_rfl)) ?_
              refine l_e rfl (fun K hK => ?_)
              refine e_call (by kernel_rfl) (rfind_ok (ab ps) (KB.ofAb hTl) (by first | omega | (simp only [List.length_append, List.length_map, List.length_cons, List.length_nil, List.length_take, List.length_drop, List.length_set] <;> omega)) _ _ x34.kb (hSo x34 (List.mem_of_getElem? hx34)).2.1.2 _ (hS38.owG (i := 3) rfl)) rfl (after_R hS38 (fun v48 w48 hv48 hS48 => ?_))
              clear hS38
              obtain ⟨z48, rfl, hz48⟩ := hv48
              have hfi := hz48.is
              refine hK _ _ ?_; clear hK K
              refine l_q rfl rfl (q_assignI rfl) ?_
              refine l_nil ?_
              refine hK47 _ _ ?_
              refine wp_seq_k (fun K49 hK49 => ?_)
              refine wp_region_lit ?_
              refine l_q rfl rfl (q_assign rfl) ?_
              refine l_nil ?_
              refine hK49 _ _ ?_
              refine c_cut (τ := (List Nat)) [(11, 11), (61, 67)] (fun x => (fun (row : List Nat) => [(11, .string (bs row))]) x) (fun x w' => (fun (row : List Nat) => St w (fun _ => False) [.blk b35 (.cells #[.int .i64 x34.k, .slice x34.ka x34.kb.length x34.kc, .slice x34.ra x34.rb.length x34.rc] 67), tb k ad cap ps, .fz g, .ow 36 2 al ((ab ps).length) cl (List.flatMap re (ab ps)), .blk b2 (.cells #[.slice of.fa of.fb.length of.fc, .slice of.ta of.tb.length of.tc, .int .i64 of.most] 65)] w' ∧ row = (getA (ab ps) x34.kb).getD []) x) (fun K51 hK51 => ?_) (fun row j51 w51 hJ51 => ?_)
              ·
                refine wp_seq_k (fun K52 hK52 => ?_)
                refine wp_region_lit ?_
                refine l_q rfl rfl (q_moveI rfl) ?_
                refine l_q rfl rfl (q_geq rfl rfl) ?_
                refine l_nil ?_
                refine hK52 _ _ ?_
                refine c_cond rfl (fun hc53 => ?_) (fun hc53 => ?_)
                ·
                  have hc53b := hc53
                  try simp only [decide_eq_true_eq, decide_eq_false_iff_not, Bool.not_eq_true', Bool.not_eq_false', Bool.and_eq_true, Bool.or_eq_true, Int.not_lt, Int.not_le, ne_eq, Decidable.not_not] at hc53
                  obtain ⟨jz, cz, hzj, hcj, hck, hcg⟩ := hz48.pos (by omega)
                  have hjl := lt_of_at hcj
                  have hBz := (KB.ofAb hTl) cz (List.mem_of_getElem? hcj)
                  refine wp_region_lit ?_
                  refine l_q rfl rfl (q_moveS rfl) ?_
                  refine l_q rfl rfl (q_moveI rfl) ?_
                  refine l_q rfl rfl (q_ixG (e := 36) (m := 2) (j := jz) rfl rfl (by kernel_rfl) (by kernel_rfl) (by first | rfl | omega) (by omega) (hS48.owG (i := 3) rfl) (by rw [rows_len (c := re) (m := 2) (fun _ => rfl)]; first | omega | (simp only [List.length_append, List.length_map, List.length_cons, List.length_nil, List.length_take, List.length_drop, List.length_set] <;> omega))) ?_
                  refine l_q rfl rfl (q_fieldG (ft := 9) (o := 1) rfl (by kernel_rfl)) ?_
                  refine l_q rfl rfl (q_load1 rfl (by kernel_rfl) (SlG.cell (hS48.owG (i := 3) rfl) (Gle.refl _) (row_at hcj (c := re) (m := 2) (fun _ => rfl) (j := 1) rfl))) ?_
                  refine l_q rfl rfl (q_assign rfl) ?_
                  refine l_nil ?_
                  refine hK51 _ _ (came (cz.2) (by repeat' (first | exact Agree.refl _ _ | refine Agree.up ?_ rfl | refine Agree.hav2 ?_ rfl | refine Agree.ups2 ?_ rfl)) (by repeat' (first | exact trivial | refine ⟨by first | rfl | exact int_succ _ | assumption, ?_⟩)) ?_)
                  exact ⟨hS48, by rw [hcg]; rfl⟩
                ·
                  have hc53b := hc53
                  try simp only [decide_eq_true_eq, decide_eq_false_iff_not, Bool.not_eq_true', Bool.not_eq_false', Bool.and_eq_true, Bool.or_eq_true, Int.not_lt, Int.not_le, ne_eq, Decidable.not_not] at hc53
                  have hcg := hz48.neg (by omega)
                  refine wp_skip ?_
                  refine hK51 _ _ (came ([]) (by repeat' (first | exact Agree.refl _ _ | refine Agree.up ?_ rfl | refine Agree.hav2 ?_ rfl | refine Agree.ups2 ?_ rfl)) (by repeat' (first | exact trivial | refine ⟨by first | rfl | exact int_succ _ | assumption, ?_⟩)) ?_)
                  exact ⟨hS48, by rw [hcg]; rfl⟩
              ·
                obtain ⟨hS51, hrw⟩ := hJ51
                try dsimp only at hS51 hrw ⊢
                have hrow : Bytes row := by rw [hrw]; exact (getL_bytes hTl x34.kb).1
                refine wp_seq_k (fun K54 hK54 => ?_)
                refine wp_region_lit ?_
                refine l_e rfl (fun K hK => ?_)
                refine e_buildSlice1 (e := 5) (zv := .int .u8 0) (xs := []) hS51 (by kernel_rfl) (by kernel_rfl) (by kernel_rfl) rfl rfl rfl rfl ((by intro u hu; cases hu)) rfl (fun b55 w55 (hS55 : St _ _ [.blk b55 (.cells #[] 5), .blk b35 (.cells #[.int .i64 x34.k, .slice x34.ka x34.kb.length x34.kc, .slice x34.ra x34.rb.length x34.rc] 67), tb k ad cap ps, .fz g, .ow 36 2 al ((ab ps).length) cl (List.flatMap re (ab ps)), .blk b2 (.cells #[.slice of.fa of.fb.length of.fc, .slice of.ta of.tb.length of.tc, .int .i64 of.most] 65)] _) => ?_)
                clear hS51
                have hS55o : St _ _ [.ow 5 1 (some ⟨b55, 0, none⟩) 0 0 (bv []), .blk b35 (.cells #[.int .i64 x34.k, .slice x34.ka x34.kb.length x34.kc, .slice x34.ra x34.rb.length x34.rc] 67), tb k ad cap ps, .fz g, .ow 36 2 al ((ab ps).length) cl (List.flatMap re (ab ps)), .blk b2 (.cells #[.slice of.fa of.fb.length of.fc, .slice of.ta of.tb.length of.tc, .int .i64 of.most] 65)] _ := hS55.blkOw' (i := 0) (m := 0) (size := 1) (xs := bv []) rfl rfl rfl (by decide); clear hS55
                refine hK _ _ ?_; clear hK K
                refine l_q rfl rfl (q_fieldAddr (ft := 23) (o := 1) rfl (by kernel_rfl)) ?_
                refine l_q rfl rfl (q_load1 rfl (by kernel_rfl) (hS55o.cell (i := 1) rfl rfl)) ?_
                refine l_e rfl (fun K hK => ?_)
                refine e_app (e := 5) (size := 1) (bytes := 1) (i := 0) (m' := x34.kb.length) (by kernel_rfl) hS55o rfl rfl rfl (SlG.src (e := 5) (by kernel_rfl) ((hSo x34 (List.mem_of_getElem? hx34)).2.1.1.mono hS55o.base) (by first | (simp only [List.length_append, List.length_map, List.length_cons, List.length_nil, List.length_take, List.length_drop, List.length_set, Nat.mul_one]; done) | (simp only [List.length_append, List.length_map, List.length_cons, List.length_nil, List.length_take, List.length_drop, List.length_set]; omega) | rfl | (simp; done)) (by decide) (bv_one _)) (by first | omega | (simp only [List.length_append, List.length_map, List.length_cons, List.length_nil, List.length_take, List.length_drop, List.length_set] <;> omega) | (simp; done)) rfl (by first | omega | (simp only [maxLen, List.length_append, List.length_map, List.length_cons, List.length_nil, List.length_take, List.length_drop, List.length_set] <;> omega) | (simp only [maxLen]; omega)) (by first | omega | (simp only [List.length_append, List.length_map, List.length_cons, List.length_nil, List.length_take, List.length_drop, List.length_set] <;> omega)) (fun ad56 cp56 w56 (hS56 : St _ _ [.ow 5 1 ad56 x34.kb.length cp56 (bv x34.kb), .blk b35 (.cells #[.int .i64 x34.k, .slice x34.ka x34.kb.length x34.kc, .slice x34.ra x34.rb.length x34.rc] 67), tb k ad cap ps, .fz g, .ow 36 2 al ((ab ps).length) cl (List.flatMap re (ab ps)), .blk b2 (.cells #[.slice of.fa of.fb.length of.fc, .slice of.ta of.tb.length of.tc, .int .i64 of.most] 65)] _) => ?_)
                clear hS55o
                refine hK _ _ ?_; clear hK K
                refine l_q rfl rfl (q_assignS rfl) ?_
                refine l_nil ?_
                refine hK54 _ _ ?_
                refine c_cut (τ := Nat × (Option Addr) × Nat × (List Pg) × Gh × (Option Addr) × Nat) [(4, 6), (13, 17), (72, 136)] (fun x => (fun (k2 : Nat) (ad2 : Option Addr) (cap2 : Nat) (ps2 : List Pg) (g2 : Gh) (al2 : Option Addr) (cl2 : Nat) => [(5, .pointer (some ⟨k2, 0, none⟩)), (6, .slice al2 ((ab ps2).length) cl2)]) x.1 x.2.1 x.2.2.1 x.2.2.2.1 x.2.2.2.2.1 x.2.2.2.2.2.1 x.2.2.2.2.2.2) (fun x w' => (fun (k2 : Nat) (ad2 : Option Addr) (cap2 : Nat) (ps2 : List Pg) (g2 : Gh) (al2 : Option Addr) (cl2 : Nat) => St w (fun _ => False) [tb k2 ad2 cap2 ps2, .fz g2, .ow 36 2 al2 ((ab ps2).length) cl2 (List.flatMap re (ab ps2)), .ow 5 1 ad56 x34.kb.length cp56 (bv x34.kb), .blk b2 (.cells #[.slice of.fa of.fb.length of.fc, .slice of.ta of.tb.length of.tc, .int .i64 of.most] 65)] w' ∧ TOk g2 ps2 ∧ (flat ps2).length ≤ i + 1) x.1 x.2.1 x.2.2.1 x.2.2.2.1 x.2.2.2.2.1 x.2.2.2.2.2.1 x.2.2.2.2.2.2) (fun K58 hK58 => ?_) (fun x58 j58 w58 hJ58 => ?_)
                ·
                  refine wp_seq_k (fun K59 hK59 => ?_)
                  refine wp_region_lit ?_
                  refine l_q rfl rfl (q_fieldAddr (ft := 3) (o := 0) rfl (by kernel_rfl)) ?_
                  refine l_q rfl rfl (q_load1 rfl (by kernel_rfl) (hS56.cell (i := 1) rfl rfl)) ?_
                  refine l_nil ?_
                  refine hK59 _ _ ?_
                  refine wp_block ?_
                  refine wp_seq_k (fun K60 hK60 => ?_)
                  refine wp_region_lit ?_
                  refine l_q rfl rfl (q_eql rfl rfl) ?_
                  refine l_q rfl rfl (q_assignB rfl) ?_
                  refine l_nil ?_
                  refine hK60 _ _ ?_
                  refine c_cond rfl (fun hc61 => ?_) (fun hc61 => ?_)
                  ·
                    have hc61b := hc61
                    try simp only [decide_eq_true_eq, decide_eq_false_iff_not, Bool.not_eq_true', Bool.not_eq_false', Bool.and_eq_true, Bool.or_eq_true, Int.not_lt, Int.not_le, ne_eq, Decidable.not_not] at hc61
                    refine wp_seq_k (fun K62 hK62 => ?_)
                    refine wp_region_lit ?_
                    refine l_q rfl rfl (q_moveP rfl) ?_
                    refine l_q rfl rfl (q_moveS rfl) ?_
                    refine l_q rfl rfl (q_fieldAddr (ft := 23) (o := 2) rfl (by kernel_rfl)) ?_
                    refine l_q rfl rfl (q_load1 rfl (by kernel_rfl) (hS56.cell (i := 1) rfl rfl)) ?_
                    refine l_e rfl (fun K hK => ?_)
                    have hS64 := hS56.fr3; clear hS56
                    have hS65 := hS64.fr3; clear hS64
                    obtain ⟨g66, hg66, hG66⟩ := St.rogO (Γ1 := [_, _]) (i := 0) hS65 rfl
                    refine e_call (by kernel_rfl) (put_ok k _ _ ps _ hTl (by first | omega | (simp only [List.length_append, List.length_map, List.length_cons, List.length_nil, List.length_take, List.length_drop, List.length_set] <;> omega)) x34.kb x34.rb (hSo x34 (List.mem_of_getElem? hx34)).2.1.2 (hSo x34 (List.mem_of_getElem? hx34)).2.2.2 (by first | omega | (simp only [List.length_append, List.length_map, List.length_cons, List.length_nil, List.length_take, List.length_drop, List.length_set] <;> omega)) (by first | omega | (simp only [List.length_append, List.length_map, List.length_cons, List.length_nil, List.length_take, List.length_drop, List.length_set] <;> omega)) x34.kb.length x34.rb.length (by first | omega | (simp only [List.length_append, List.length_map, List.length_cons, List.length_nil, List.length_take, List.length_drop, List.length_set] <;> omega)) (by first | omega | (simp only [List.length_append, List.length_map, List.length_cons, List.length_nil, List.length_take, List.length_drop, List.length_set] <;> omega)) _ _ _ _ _ _ hG66 (hSo x34 (List.mem_of_getElem? hx34)).2.2.1 _ hg66 (St.rogB (Γ1 := [_, _]) hS65) (St.begin (Γ := [_, _]) hS65)) rfl (after_M (Γ1 := [_, _]) hS65 (fun v63 G63 w63 hv63 hS63 => ?_))
                    clear hS65
                    obtain ⟨ad63, cp63, ps63, g63, oa63, on63, oc63, rfl, rfl, hle63, hT63, hab63, hold63⟩ := hv63
                    have hS67 : St _ _ [tb k ad63 cp63 ps63, .fz g63, .ow 5 1 ad56 x34.kb.length cp56 (bv x34.kb), .blk b35 (.cells #[.int .i64 x34.k, .slice x34.ka x34.kb.length x34.kc, .slice x34.ra x34.rb.length x34.rc] 67), .ow 36 2 al ((ab ps).length) cl (List.flatMap re (ab ps)), .blk b2 (.cells #[.slice of.fa of.fb.length of.fc, .slice of.ta of.tb.length of.tc, .int .i64 of.most] 65)] _ := hS63; clear hS63
                    have hfl63 := flat_put hab63
                    have hon63 := hold63.2.2.2
                    have hoe63 := hold63.1
                    refine hK _ _ ?_; clear hK K
                    refine l_q rfl rfl (q_move rfl) ?_
                    refine l_q rfl rfl (q_extract rfl rfl) ?_
                    refine l_q rfl rfl (q_extract rfl rfl) ?_
                    refine l_q rfl rfl (q_assignS rfl) ?_
                    refine l_q rfl rfl (q_assignB rfl) ?_
                    refine l_nil ?_
                    refine hK62 _ _ ?_
                    refine wp_seq_k (fun K68 hK68 => ?_)
                    refine wp_region_lit ?_
                    refine l_q rfl rfl (q_moveS rfl) ?_
                    refine l_q rfl rfl (q_fieldAddr (ft := 23) (o := 1) rfl (by kernel_rfl)) ?_
                    refine l_q rfl rfl (q_load1 rfl (by kernel_rfl) (hS67.cell (i := 3) rfl rfl)) ?_
                    refine l_q rfl rfl (q_convBS (l := x34.kb) rfl ((hSo x34 (List.mem_of_getElem? hx34)).2.1.1.mono hS67.base) (by first | omega | (simp only [List.length_append, List.length_map, List.length_cons, List.length_nil, List.length_take, List.length_drop, List.length_set] <;> omega)) (by kernel_rfl) (by kernel_rfl)) ?_
                    refine l_q rfl rfl (q_fieldAddr (ft := 23) (o := 2) rfl (by kernel_rfl)) ?_
                    refine l_q rfl rfl (q_load1 rfl (by kernel_rfl) (hS67.cell (i := 3) rfl rfl)) ?_
                    refine l_q rfl rfl (q_convBS (l := x34.rb) rfl ((hSo x34 (List.mem_of_getElem? hx34)).2.2.1.mono hS67.base) (by first | omega | (simp only [List.length_append, List.length_map, List.length_cons, List.length_nil, List.length_take, List.length_drop, List.length_set] <;> omega)) (by kernel_rfl) (by kernel_rfl)) ?_
                    refine l_e rfl (fun K hK => ?_)
                    refine e_call (by kernel_rfl) (rput_ok (ab ps) (KB.ofAb hTl) (by first | omega | (simp only [List.length_append, List.length_map, List.length_cons, List.length_nil, List.length_take, List.length_drop, List.length_set] <;> omega)) _ _ x34.kb x34.rb (hSo x34 (List.mem_of_getElem? hx34)).2.1.2 (hSo x34 (List.mem_of_getElem? hx34)).2.2.2 hTl.pok.srt _ (hS67.owG (i := 4) rfl)) rfl (after_N hS67 (fun v69 G69 w69 hv69 hS69 => ?_))
                    clear hS67
                    obtain ⟨oa69, oc69, rfl, rfl⟩ := hv69
                    have hS70 : St _ _ [.ow 36 2 oa69 ((putA (ab ps) x34.kb x34.rb).length) oc69 (List.flatMap re (putA (ab ps) x34.kb x34.rb)), tb k ad63 cp63 ps63, .fz g63, .ow 5 1 ad56 x34.kb.length cp56 (bv x34.kb), .blk b35 (.cells #[.int .i64 x34.k, .slice x34.ka x34.kb.length x34.kc, .slice x34.ra x34.rb.length x34.rc] 67), .ow 36 2 al ((ab ps).length) cl (List.flatMap re (ab ps)), .blk b2 (.cells #[.slice of.fa of.fb.length of.fc, .slice of.ta of.tb.length of.tc, .int .i64 of.most] 65)] _ := hS69; clear hS69
                    have hsw := hab63
                    refine hK _ _ ?_; clear hK K
                    refine l_q rfl rfl (q_assignS rfl) ?_
                    refine l_nil ?_
                    refine hK68 _ _ ?_
                    refine wp_seq_k (fun K71 hK71 => ?_)
                    refine wp_region_lit ?_
                    refine l_q rfl rfl (q_moveB rfl) ?_
                    refine l_q rfl rfl (q_moveI rfl) ?_
                    refine l_q rfl rfl (q_geq rfl rfl) ?_
                    refine l_q rfl rfl (q_bool_neq rfl rfl (by kernel_rfl)) ?_
                    refine l_q rfl rfl (q_moveB rfl) ?_
                    refine l_on rfl rfl (by rw [hfi]; simp) ?_
                    refine l_q rfl rfl (q_moveS rfl) ?_
                    refine l_on rfl rfl (by rw [hfi]; simp) ?_
                    refine l_q rfl rfl (q_convBS (l := ((getA (ab ps) x34.kb).getD [])) rfl (hold63.2.1.mono (hS70.fz (i := 2) rfl)) (by first | omega | (simp only [List.length_append, List.length_map, List.length_cons, List.length_nil, List.length_take, List.length_drop, List.length_set] <;> omega)) (by kernel_rfl) (by kernel_rfl)) ?_
                    refine l_on rfl rfl (by rw [hfi]; simp) ?_
                    refine l_q rfl rfl (q_move rfl) ?_
                    refine l_on rfl rfl (by rw [hfi]; simp) ?_
                    refine l_q rfl rfl (q_str_neq (l := ((getA (ab ps) x34.kb).getD [])) (m := row) rfl rfl hold63.2.2.1 hrow) ?_
                    refine l_q rfl rfl (q_pickF rfl (by rw [hfi]; simp) rfl) ?_
                    refine l_nil ?_
                    refine hK71 _ _ ?_
                    refine c_condF rfl (by rw [hrw]; simp) ?_
                    refine wp_skip ?_
                    have hS74 : St _ _ [.ow 36 2 oa69 ((ab ps63).length) oc69 (List.flatMap re (ab ps63)), tb k ad63 cp63 ps63, .fz g63, .ow 5 1 ad56 x34.kb.length cp56 (bv x34.kb), .blk b35 (.cells #[.int .i64 x34.k, .slice x34.ka x34.kb.length x34.kc, .slice x34.ra x34.rb.length x34.rc] 67), .ow 36 2 al ((ab ps).length) cl (List.flatMap re (ab ps)), .blk b2 (.cells #[.slice of.fa of.fb.length of.fc, .slice of.ta of.tb.length of.tc, .int .i64 of.most] 65)] _ := hS70.cast (by rw [hsw]); clear hS70
                    have hS75 := hS74.fr6; clear hS74
                    have hS76 := hS75.fr4; clear hS75
                    have hS77 := hS76.fr2; clear hS76
                    have hS78 := hS77.fr4; clear hS77
                    have hS79 := hS78.fr4; clear hS78
                    have hS80 : St _ _ [tb k ad63 cp63 ps63, .fz g63, .ow 36 2 oa69 ((ab ps63).length) oc69 (List.flatMap re (ab ps63)), .ow 5 1 ad56 x34.kb.length cp56 (bv x34.kb), .blk b2 (.cells #[.slice of.fa of.fb.length of.fc, .slice of.ta of.tb.length of.tc, .int .i64 of.most] 65)] _ := hS79.only 5; clear hS79
                    refine hK58 _ _ (came (⟨k, ad63, cp63, ps63, g63, oa69, oc69⟩) (by repeat' (first | exact Agree.refl _ _ | refine Agree.up ?_ rfl | refine Agree.hav2 ?_ rfl | refine Agree.ups2 ?_ rfl)) (by repeat' (first | exact trivial | refine ⟨by first | rfl | (rw [hsw]; rfl), ?_⟩)) ?_)
                    exact ⟨hS80, hT63, (by show (flat ps63).length ≤ i + 1; omega)⟩
                  ·
                    have hc61b := hc61
                    try simp only [decide_eq_true_eq, decide_eq_false_iff_not, Bool.not_eq_true', Bool.not_eq_false', Bool.and_eq_true, Bool.or_eq_true, Int.not_lt, Int.not_le, ne_eq, Decidable.not_not] at hc61
                    refine wp_seq_k (fun K81 hK81 => ?_)
                    refine wp_region_lit ?_
                    refine l_q rfl rfl (q_eql rfl rfl) ?_
                    refine l_q rfl rfl (q_assignB rfl) ?_
                    refine l_nil ?_
                    refine hK81 _ _ ?_
                    refine c_cond rfl (fun hc82 => ?_) (fun hc82 => ?_)
                    ·
                      have hc82b := hc82
                      try simp only [decide_eq_true_eq, decide_eq_false_iff_not, Bool.not_eq_true', Bool.not_eq_false', Bool.and_eq_true, Bool.or_eq_true, Int.not_lt, Int.not_le, ne_eq, Decidable.not_not] at hc82
                      refine wp_seq_k (fun K83 hK83 => ?_)
                      refine wp_region_lit ?_
                      refine l_q rfl rfl (q_moveP rfl) ?_
                      refine l_q rfl rfl (q_moveS rfl) ?_
                      refine l_e rfl (fun K hK => ?_)
                      have hS85 := hS56.fr3; clear hS56
                      have hS86 := hS85.fr3; clear hS85
                      obtain ⟨g87, hg87, hG87⟩ := St.rogO (Γ1 := [_, _]) (i := 0) hS86 rfl
                      refine e_call (by kernel_rfl) (drop_ok k _ _ ps _ hTl (by first | omega | (simp only [List.length_append, List.length_map, List.length_cons, List.length_nil, List.length_take, List.length_drop, List.length_set] <;> omega)) x34.kb (hSo x34 (List.mem_of_getElem? hx34)).2.1.2 (by first | omega | (simp only [List.length_append, List.length_map, List.length_cons, List.length_nil, List.length_take, List.length_drop, List.length_set] <;> omega)) x34.kb.length (by first | omega | (simp only [List.length_append, List.length_map, List.length_cons, List.length_nil, List.length_take, List.length_drop, List.length_set] <;> omega)) _ _ _ hG87 _ hg87 (St.begin (Γ := [_, _]) hS86)) rfl (after_M (Γ1 := [_, _]) hS86 (fun v84 G84 w84 hv84 hS84 => ?_))
                      clear hS86
                      obtain ⟨ad84, cp84, ps84, oa84, on84, oc84, rfl, rfl, hT84, hab84, hold84⟩ := hv84
                      have hS88 : St _ _ [tb k ad84 cp84 ps84, .fz g, .ow 5 1 ad56 x34.kb.length cp56 (bv x34.kb), .blk b35 (.cells #[.int .i64 x34.k, .slice x34.ka x34.kb.length x34.kc, .slice x34.ra x34.rb.length x34.rc] 67), .ow 36 2 al ((ab ps).length) cl (List.flatMap re (ab ps)), .blk b2 (.cells #[.slice of.fa of.fb.length of.fc, .slice of.ta of.tb.length of.tc, .int .i64 of.most] 65)] _ := hS84; clear hS84
                      have hfl84 := flat_drop hab84
                      have hon84 := hold84.2.2.2
                      have hoe84 := hold84.1
                      refine hK _ _ ?_; clear hK K
                      refine l_q rfl rfl (q_move rfl) ?_
                      refine l_q rfl rfl (q_extract rfl rfl) ?_
                      refine l_q rfl rfl (q_extract rfl rfl) ?_
                      refine l_q rfl rfl (q_assignS rfl) ?_
                      refine l_q rfl rfl (q_assignB rfl) ?_
                      refine l_nil ?_
                      refine hK83 _ _ ?_
                      refine wp_seq_k (fun K89 hK89 => ?_)
                      refine wp_region_lit ?_
                      refine l_q rfl rfl (q_moveS rfl) ?_
                      refine l_q rfl rfl (q_fieldAddr (ft := 23) (o := 1) rfl (by kernel_rfl)) ?_
                      refine l_q rfl rfl (q_load1 rfl (by kernel_rfl) (hS88.cell (i := 3) rfl rfl)) ?_
                      refine l_q rfl rfl (q_convBS (l := x34.kb) rfl ((hSo x34 (List.mem_of_getElem? hx34)).2.1.1.mono hS88.base) (by first | omega | (simp only [List.length_append, List.length_map, List.length_cons, List.length_nil, List.length_take, List.length_drop, List.length_set] <;> omega)) (by kernel_rfl) (by kernel_rfl)) ?_
                      refine l_e rfl (fun K hK => ?_)
                      refine e_call (by kernel_rfl) (rdrop_ok (ab ps) (KB.ofAb hTl) (by first | omega | (simp only [List.length_append, List.length_map, List.length_cons, List.length_nil, List.length_take, List.length_drop, List.length_set] <;> omega)) _ _ x34.kb (hSo x34 (List.mem_of_getElem? hx34)).2.1.2 _ (hS88.owG (i := 4) rfl)) rfl (after_N hS88 (fun v90 G90 w90 hv90 hS90 => ?_))
                      clear hS88
                      obtain ⟨oa90, oc90, rfl, rfl⟩ := hv90
                      have hS91 : St _ _ [.ow 36 2 oa90 ((dropA (ab ps) x34.kb).length) oc90 (List.flatMap re (dropA (ab ps) x34.kb)), tb k ad84 cp84 ps84, .fz g, .ow 5 1 ad56 x34.kb.length cp56 (bv x34.kb), .blk b35 (.cells #[.int .i64 x34.k, .slice x34.ka x34.kb.length x34.kc, .slice x34.ra x34.rb.length x34.rc] 67), .ow 36 2 al ((ab ps).length) cl (List.flatMap re (ab ps)), .blk b2 (.cells #[.slice of.fa of.fb.length of.fc, .slice of.ta of.tb.length of.tc, .int .i64 of.most] 65)] _ := hS90; clear hS90
                      have hsw := hab84
                      refine hK _ _ ?_; clear hK K
                      refine l_q rfl rfl (q_assignS rfl) ?_
                      refine l_nil ?_
                      refine hK89 _ _ ?_
                      refine wp_seq_k (fun K92 hK92 => ?_)
                      refine wp_region_lit ?_
                      refine l_q rfl rfl (q_moveB rfl) ?_
                      refine l_q rfl rfl (q_moveI rfl) ?_
                      refine l_q rfl rfl (q_geq rfl rfl) ?_
                      refine l_q rfl rfl (q_bool_neq rfl rfl (by kernel_rfl)) ?_
                      refine l_q rfl rfl (q_moveB rfl) ?_
                      refine l_on rfl rfl (by rw [hfi]; simp) ?_
                      refine l_q rfl rfl (q_moveS rfl) ?_
                      refine l_on rfl rfl (by rw [hfi]; simp) ?_
                      refine l_q rfl rfl (q_convBS (l := ((getA (ab ps) x34.kb).getD [])) rfl (hold84.2.1.mono (hS91.fz (i := 2) rfl)) (by first | omega | (simp only [List.length_append, List.length_map, List.length_cons, List.length_nil, List.length_take, List.length_drop, List.length_set] <;> omega)) (by kernel_rfl) (by kernel_rfl)) ?_
                      refine l_on rfl rfl (by rw [hfi]; simp) ?_
                      refine l_q rfl rfl (q_move rfl) ?_
                      refine l_on rfl rfl (by rw [hfi]; simp) ?_
                      refine l_q rfl rfl (q_str_neq (l := ((getA (ab ps) x34.kb).getD [])) (m := row) rfl rfl hold84.2.2.1 hrow) ?_
                      refine l_q rfl rfl (q_pickF rfl (by rw [hfi]; simp) rfl) ?_
                      refine l_nil ?_
                      refine hK92 _ _ ?_
                      refine c_condF rfl (by rw [hrw]; simp) ?_
                      refine wp_skip ?_
                      have hS95 : St _ _ [.ow 36 2 oa90 ((ab ps84).length) oc90 (List.flatMap re (ab ps84)), tb k ad84 cp84 ps84, .fz g, .ow 5 1 ad56 x34.kb.length cp56 (bv x34.kb), .blk b35 (.cells #[.int .i64 x34.k, .slice x34.ka x34.kb.length x34.kc, .slice x34.ra x34.rb.length x34.rc] 67), .ow 36 2 al ((ab ps).length) cl (List.flatMap re (ab ps)), .blk b2 (.cells #[.slice of.fa of.fb.length of.fc, .slice of.ta of.tb.length of.tc, .int .i64 of.most] 65)] _ := hS91.cast (by rw [hsw]); clear hS91
                      have hS96 := hS95.fr6; clear hS95
                      have hS97 := hS96.fr4; clear hS96
                      have hS98 := hS97.fr2; clear hS97
                      have hS99 := hS98.fr4; clear hS98
                      have hS100 := hS99.fr4; clear hS99
                      have hS101 : St _ _ [tb k ad84 cp84 ps84, .fz g, .ow 36 2 oa90 ((ab ps84).length) oc90 (List.flatMap re (ab ps84)), .ow 5 1 ad56 x34.kb.length cp56 (bv x34.kb), .blk b2 (.cells #[.slice of.fa of.fb.length of.fc, .slice of.ta of.tb.length of.tc, .int .i64 of.most] 65)] _ := hS100.only 5; clear hS100
                      refine hK58 _ _ (came (⟨k, ad84, cp84, ps84, g, oa90, oc90⟩) (by repeat' (first | exact Agree.refl _ _ | refine Agree.up ?_ rfl | refine Agree.hav2 ?_ rfl | refine Agree.ups2 ?_ rfl)) (by repeat' (first | exact trivial | refine ⟨by first | rfl | (rw [hsw]; rfl), ?_⟩)) ?_)
                      exact ⟨hS101, hT84, (by show (flat ps84).length ≤ i + 1; omega)⟩
                    ·
                      have hc82b := hc82
                      try simp only [decide_eq_true_eq, decide_eq_false_iff_not, Bool.not_eq_true', Bool.not_eq_false', Bool.and_eq_true, Bool.or_eq_true, Int.not_lt, Int.not_le, ne_eq, Decidable.not_not] at hc82
                      refine wp_seq_k (fun K102 hK102 => ?_)
                      refine wp_region_lit ?_
                      refine l_q rfl rfl (q_eql rfl rfl) ?_
                      refine l_q rfl rfl (q_assignB rfl) ?_
                      refine l_nil ?_
                      refine hK102 _ _ ?_
                      refine c_cond rfl (fun hc103 => ?_) (fun hc103 => ?_)
                      ·
                        have hc103b := hc103
                        try simp only [decide_eq_true_eq, decide_eq_false_iff_not, Bool.not_eq_true', Bool.not_eq_false', Bool.and_eq_true, Bool.or_eq_true, Int.not_lt, Int.not_le, ne_eq, Decidable.not_not] at hc103
                        refine wp_seq_k (fun K104 hK104 => ?_)
                        refine wp_region_lit ?_
                        refine l_q rfl rfl (q_moveP rfl) ?_
                        refine l_e rfl (fun K hK => ?_)
                        refine e_call (by kernel_rfl) (copy_ok k _ _ ps (by first | omega | (simp only [List.length_append, List.length_map, List.length_cons, List.length_nil, List.length_take, List.length_drop, List.length_set] <;> omega)) _ (hS56.tr (i := 2) (j := 3) rfl rfl hTl)) rfl (after_N hS56 (fun v105 G105 w105 hv105 hS105 => ?_))
                        clear hS56
                        obtain ⟨k105, ad105, cp105, ps105, rfl, rfl, hq105⟩ := hv105
                        have hS106 : St _ _ [tb k105 ad105 cp105 ps105, .ow 5 1 ad56 x34.kb.length cp56 (bv x34.kb), .blk b35 (.cells #[.int .i64 x34.k, .slice x34.ka x34.kb.length x34.kc, .slice x34.ra x34.rb.length x34.rc] 67), tb k ad cap ps, .fz g, .ow 36 2 al ((ab ps).length) cl (List.flatMap re (ab ps)), .blk b2 (.cells #[.slice of.fa of.fb.length of.fc, .slice of.ta of.tb.length of.tc, .int .i64 of.most] 65)] _ := hS105; clear hS105
                        obtain ⟨hT105, hab105⟩ := hTl.copy hq105
                        have hfl105 := (flat_es hq105).1
                        have hfe105 : (flat ps105).length = (flat ps).length := by rw [hfl105]
                        have hsw := hab105
                        refine hK _ _ ?_; clear hK K
                        refine l_q rfl rfl (q_assignP rfl) ?_
                        refine l_nil ?_
                        refine hK104 _ _ ?_
                        refine wp_seq_k (fun K107 hK107 => ?_)
                        refine wp_seq_k (fun K108 hK108 => ?_)
                        refine wp_region_lit ?_
                        refine l_q rfl rfl (q_moveP rfl) ?_
                        refine l_q rfl rfl (q_peq rfl (by kernel_rfl)) ?_
                        refine l_nil ?_
                        refine hK108 _ _ ?_
                        refine c_condF rfl rfl ?_
                        refine wp_skip ?_
                        refine hK107 _ _ ?_
                        refine wp_seq_k (fun K110 hK110 => ?_)
                        refine wp_region_lit ?_
                        refine l_q rfl rfl (q_moveP rfl) ?_
                        refine l_q rfl rfl (q_moveS rfl) ?_
                        refine l_q rfl rfl (q_fieldAddr (ft := 23) (o := 2) rfl (by kernel_rfl)) ?_
                        refine l_q rfl rfl (q_load1 rfl (by kernel_rfl) (hS106.cell (i := 2) rfl rfl)) ?_
                        refine l_e rfl (fun K hK => ?_)
                        have hS112 := hS106.fr4; clear hS106
                        have hS113 := hS112.fr4; clear hS112
                        obtain ⟨g114, hg114, hG114⟩ := St.rogO (Γ1 := [_, _]) (i := 1) hS113 rfl
                        refine e_call (by kernel_rfl) (put_ok k _ _ ps _ hTl (by first | omega | (simp only [List.length_append, List.length_map, List.length_cons, List.length_nil, List.length_take, List.length_drop, List.length_set] <;> omega)) x34.kb x34.rb (hSo x34 (List.mem_of_getElem? hx34)).2.1.2 (hSo x34 (List.mem_of_getElem? hx34)).2.2.2 (by first | omega | (simp only [List.length_append, List.length_map, List.length_cons, List.length_nil, List.length_take, List.length_drop, List.length_set] <;> omega)) (by first | omega | (simp only [List.length_append, List.length_map, List.length_cons, List.length_nil, List.length_take, List.length_drop, List.length_set] <;> omega)) x34.kb.length x34.rb.length (by first | omega | (simp only [List.length_append, List.length_map, List.length_cons, List.length_nil, List.length_take, List.length_drop, List.length_set] <;> omega)) (by first | omega | (simp only [List.length_append, List.length_map, List.length_cons, List.length_nil, List.length_take, List.length_drop, List.length_set] <;> omega)) _ _ _ _ _ _ hG114 (hSo x34 (List.mem_of_getElem? hx34)).2.2.1 _ hg114 (St.rogB (Γ1 := [_, _]) hS113) (St.begin (Γ := [_, _]) hS113)) rfl (after_M (Γ1 := [_, _]) hS113 (fun v111 G111 w111 hv111 hS111 => ?_))
                        clear hS113
                        obtain ⟨ad111, cp111, ps111, g111, oa111, on111, oc111, rfl, rfl, hle111, hT111, hab111, hold111⟩ := hv111
                        have hS115 : St _ _ [tb k ad111 cp111 ps111, .fz g111, tb k105 ad105 cp105 ps105, .ow 5 1 ad56 x34.kb.length cp56 (bv x34.kb), .blk b35 (.cells #[.int .i64 x34.k, .slice x34.ka x34.kb.length x34.kc, .slice x34.ra x34.rb.length x34.rc] 67), .ow 36 2 al ((ab ps).length) cl (List.flatMap re (ab ps)), .blk b2 (.cells #[.slice of.fa of.fb.length of.fc, .slice of.ta of.tb.length of.tc, .int .i64 of.most] 65)] _ := hS111; clear hS111
                        have hfl111 := flat_put hab111
                        have hon111 := hold111.2.2.2
                        have hoe111 := hold111.1
                        have hTm111_k105 := hT105.mono hle111
                        refine hK _ _ ?_; clear hK K
                        refine l_nil ?_
                        refine hK110 _ _ ?_
                        refine wp_region_lit ?_
                        refine l_q rfl rfl (q_moveP rfl) ?_
                        refine l_q rfl rfl (q_assignP rfl) ?_
                        refine l_nil ?_
                        have hS116 : St _ _ [tb k ad111 cp111 ps111, .fz g111, tb k105 ad105 cp105 ps105, .ow 5 1 ad56 x34.kb.length cp56 (bv x34.kb), .blk b35 (.cells #[.int .i64 x34.k, .slice x34.ka x34.kb.length x34.kc, .slice x34.ra x34.rb.length x34.rc] 67), .ow 36 2 al ((ab ps105).length) cl (List.flatMap re (ab ps105)), .blk b2 (.cells #[.slice of.fa of.fb.length of.fc, .slice of.ta of.tb.length of.tc, .int .i64 of.most] 65)] _ := hS115.cast (by rw [hsw]); clear hS115
                        have hS117 := hS116.fr6; clear hS116
                        have hS118 := hS117.fr4; clear hS117
                        have hS119 := hS118.fr6; clear hS118
                        have hS120 := hS119.fr4; clear hS119
                        have hS121 := hS120.fr5; clear hS120
                        have hS122 : St _ _ [tb k105 ad105 cp105 ps105, .fz g111, .ow 36 2 al ((ab ps105).length) cl (List.flatMap re (ab ps105)), .ow 5 1 ad56 x34.kb.length cp56 (bv x34.kb), .blk b2 (.cells #[.slice of.fa of.fb.length of.fc, .slice of.ta of.tb.length of.tc, .int .i64 of.most] 65)] _ := hS121.only 5; clear hS121
                        refine hK58 _ _ (came (⟨k105, ad105, cp105, ps105, g111, al, cl⟩) (by repeat' (first | exact Agree.refl _ _ | refine Agree.up ?_ rfl | refine Agree.hav2 ?_ rfl | refine Agree.ups2 ?_ rfl)) (by repeat' (first | exact trivial | refine ⟨by first | rfl | (rw [hsw]; rfl), ?_⟩)) ?_)
                        exact ⟨hS122, hTm111_k105, (by show (flat ps105).length ≤ i + 1; omega)⟩
                      ·
                        have hc103b := hc103
                        try simp only [decide_eq_true_eq, decide_eq_false_iff_not, Bool.not_eq_true', Bool.not_eq_false', Bool.and_eq_true, Bool.or_eq_true, Int.not_lt, Int.not_le, ne_eq, Decidable.not_not] at hc103
                        refine wp_skip ?_
                        have hS123 := hS56.fr5; clear hS56
                        have hS124 := hS123.fr1; clear hS123
                        have hS125 := hS124.fr5; clear hS124
                        have hS126 := hS125.fr5; clear hS125
                        have hS127 := hS126.fr5; clear hS126
                        have hS128 : St _ _ [tb k ad cap ps, .fz g, .ow 36 2 al ((ab ps).length) cl (List.flatMap re (ab ps)), .ow 5 1 ad56 x34.kb.length cp56 (bv x34.kb), .blk b2 (.cells #[.slice of.fa of.fb.length of.fc, .slice of.ta of.tb.length of.tc, .int .i64 of.most] 65)] _ := hS127.only 5; clear hS127
                        refine hK58 _ _ (came (⟨k, ad, cap, ps, g, al, cl⟩) (by repeat' (first | exact Agree.refl _ _ | refine Agree.up ?_ rfl | refine Agree.hav2 ?_ rfl | refine Agree.ups2 ?_ rfl)) (by repeat' (first | exact trivial | refine ⟨by first | rfl | (rw [hsw]; rfl), ?_⟩)) ?_)
                        exact ⟨hS128, hTl, (by show (flat ps).length ≤ i + 1; omega)⟩
                ·
                  obtain ⟨k2, ad2, cap2, ps2, g2, al2, cl2⟩ := x58
                  obtain ⟨hS58, hTm, hfm⟩ := hJ58
                  try dsimp only at hS58 hTm hfm ⊢
                  have hal2 : (ab ps2).length ≤ 151 := by rw [ab_len]; omega
                  have hln2 := ab_len ps2
                  refine wp_seq_k (fun K129 hK129 => ?_)
                  refine wp_seq_k (fun K130 hK130 => ?_)
                  refine wp_region_lit ?_
                  refine l_q rfl rfl (q_assignI rfl) ?_
                  refine l_nil ?_
                  refine hK130 _ _ ?_
                  refine wp_block ?_
                  have hkbl : x34.kb.length = x34.kb.length := rfl
                  have hS131 := hS58.fr4; clear hS58
                  have hS132 := hS131.fr3; clear hS131
                  have hS133 := hS132.fr3; clear hS132
                  have hS134 := hS133.fr3; clear hS133
                  have hS135 := hS134.fr4; clear hS134
                  refine c_loop (τ := Nat × (List Nat)) [(18, 18), (137, 150)] (fun x => (fun (jk : Nat) (kl : List Nat) => [(18, .int .i64 ((jk : Nat) : Int))]) x.1 x.2) (fun x w' => (fun (jk : Nat) (kl : List Nat) => St w (fun _ => False) [.ow 5 1 ad56 x34.kb.length cp56 (bv kl), tb k2 ad2 cap2 ps2, .fz g2, .ow 36 2 al2 ((ab ps2).length) cl2 (List.flatMap re (ab ps2)), .blk b2 (.cells #[.slice of.fa of.fb.length of.fc, .slice of.ta of.tb.length of.tc, .int .i64 of.most] 65)] w' ∧ jk ≤ x34.kb.length ∧ Bytes kl ∧ kl.length = x34.kb.length) x.1 x.2) (fun x => (fun (jk : Nat) (kl : List Nat) => x34.kb.length - jk) x.1 x.2) (⟨0, x34.kb⟩) ?_ (by repeat' (first | exact trivial | refine ⟨by first | rfl | exact int_succ _ | assumption, ?_⟩)) (fun x136 j136 w136 hJ136 K136 hK136 => ?_)
                  ·
                    exact ⟨hS135, Nat.zero_le _, (hSo x34 (List.mem_of_getElem? hx34)).2.1.2, rfl⟩
                  ·
                    obtain ⟨jk, kl⟩ := x136
                    obtain ⟨hS136, hjk, hkB, hkll⟩ := hJ136
                    try dsimp only at hS136 hjk hkB hkll ⊢
                    refine wp_seq_k (fun K137 hK137 => ?_)
                    refine wp_seq_k (fun K138 hK138 => ?_)
                    refine wp_region_lit ?_
                    refine l_q rfl rfl (q_moveI rfl) ?_
                    refine l_q rfl rfl (q_moveS rfl) ?_
                    refine l_q rfl rfl (q_lenSl (e := 5) rfl (by kernel_rfl)) ?_
                    refine l_q rfl rfl (q_lss rfl rfl) ?_
                    refine l_nil ?_
                    refine hK138 _ _ ?_
                    refine c_cond rfl (fun hc139 => ?_) (fun hc139 => ?_)
                    ·
                      have hc139b := hc139
                      try simp only [decide_eq_true_eq, decide_eq_false_iff_not, Bool.not_eq_true', Bool.not_eq_false', Bool.and_eq_true, Bool.or_eq_true, Int.not_lt, Int.not_le, ne_eq, Decidable.not_not] at hc139
                      refine wp_skip ?_
                      refine hK137 _ _ ?_
                      refine wp_seq_k (fun K140 hK140 => ?_)
                      refine wp_block ?_
                      refine wp_region_lit ?_
                      refine l_q rfl rfl (q_moveS rfl) ?_
                      refine l_q rfl rfl (q_moveI rfl) ?_
                      refine l_q rfl rfl (q_moveS rfl) ?_
                      refine l_q rfl rfl (q_moveI rfl) ?_
                      refine l_q rfl rfl (q_ixG (e := 5) (m := 1) (j := jk) rfl rfl (by kernel_rfl) (by kernel_rfl) (by first | rfl | omega) (by omega) (hS136.owG (i := 0) rfl) (by rw [bv_len]; first | omega | (simp only [List.length_append, List.length_map, List.length_cons, List.length_nil, List.length_take, List.length_drop, List.length_set] <;> omega))) ?_
                      obtain ⟨x141, hx141⟩ : ∃ x, (kl)[jk]? = some x := ⟨_, List.getElem?_eq_getElem (by first | omega | (simp only [List.length_append, List.length_map, List.length_cons, List.length_nil, List.length_take, List.length_drop, List.length_set] <;> omega) | (simp <;> omega))⟩
                      have hb141 : x141 < 256 := hkB x141 (List.mem_of_getElem? hx141)
                      refine l_q rfl rfl (q_load1 rfl (by kernel_rfl) (SlG.cell (hS136.owG (i := 0) rfl) (Gle.refl _) (at1 (bv_at hx141)))) ?_
                      refine l_q rfl rfl (q_xorN (a := x141) (b := 255) 8 rfl rfl (by omega) (by omega) (.inl ⟨rfl, rfl⟩)) ?_
                      refine l_q rfl rfl (q_ixG (e := 5) (m := 1) (j := jk) rfl rfl (by kernel_rfl) (by kernel_rfl) (by first | rfl | omega) (by omega) (hS136.owG (i := 0) rfl) (by rw [bv_len]; first | omega | (simp only [List.length_append, List.length_map, List.length_cons, List.length_nil, List.length_take, List.length_drop, List.length_set] <;> omega))) ?_
                      refine l_e rfl (fun K hK => ?_)
                      refine e_stOw hS136 rfl rfl (by kernel_rfl) (by first | rfl | assumption) (i := 0) rfl (by omega) bv_set1 (fun w142 (hS142 : St _ _ [.ow 5 1 ad56 x34.kb.length cp56 (bv (kl.set jk (x141 ^^^ 255))), tb k2 ad2 cap2 ps2, .fz g2, .ow 36 2 al2 ((ab ps2).length) cl2 (List.flatMap re (ab ps2)), .blk b2 (.cells #[.slice of.fa of.fb.length of.fc, .slice of.ta of.tb.length of.tc, .int .i64 of.most] 65)] _) => ?_)
                      clear hS136
                      have hB142 : Bytes (kl.set jk (x141 ^^^ 255)) := Bytes.set hkB (by first | omega | exact Nat.xor_lt_two_pow (n := 8) (by omega) (by omega))
                      refine hK _ _ ?_; clear hK K
                      refine l_nil ?_
                      refine hK140 _ _ ?_
                      refine wp_region_lit ?_
                      refine l_q rfl rfl (q_moveI rfl) ?_
                      refine l_q rfl rfl (q_addx rfl rfl (by first | decide | omega) (by first | decide | omega)) ?_
                      refine l_q rfl rfl (q_assignI rfl) ?_
                      refine l_nil ?_
                      refine hK136 _ _ (came (⟨(jk + 1), (kl.set jk (x141 ^^^ 255))⟩) (by repeat' (first | exact Agree.refl _ _ | refine Agree.up ?_ rfl | refine Agree.hav2 ?_ rfl | refine Agree.ups2 ?_ rfl)) (by repeat' (first | exact trivial | refine ⟨by first | rfl | exact int_succ _ | assumption, ?_⟩)) ?_)
                      exact ⟨⟨hS142, (by show jk + 1 ≤ x34.kb.length; omega), hB142, (by show (kl.set jk (x141 ^^^ 255)).length = _; simp only [List.length_set]; exact hkll)⟩, by (show x34.kb.length - (jk + 1) < x34.kb.length - jk); omega⟩
                    ·
                      have hc139b := hc139
                      try simp only [decide_eq_true_eq, decide_eq_false_iff_not, Bool.not_eq_true', Bool.not_eq_false', Bool.and_eq_true, Bool.or_eq_true, Int.not_lt, Int.not_le, ne_eq, Decidable.not_not] at hc139
                      refine wp_exit ?_
                      refine hK129 _ _ ?_
                      refine wp_seq_k (fun K143 hK143 => ?_)
                      refine wp_region_lit ?_
                      refine l_q rfl rfl (q_moveP rfl) ?_
                      refine l_q rfl rfl (q_fieldAddr (ft := 23) (o := 0) rfl (by kernel_rfl)) ?_
                      refine l_q rfl rfl (q_load1 rfl (by kernel_rfl) (hS136.cell (i := 4) rfl rfl)) ?_
                      refine l_q rfl rfl (q_fieldAddr (ft := 23) (o := 1) rfl (by kernel_rfl)) ?_
                      refine l_q rfl rfl (q_load1 rfl (by kernel_rfl) (hS136.cell (i := 4) rfl rfl)) ?_
                      refine l_q rfl rfl (q_fieldAddr (ft := 3) (o := 2) rfl (by kernel_rfl)) ?_
                      refine l_q rfl rfl (q_load1 rfl (by kernel_rfl) (hS136.cell (i := 4) rfl rfl)) ?_
                      refine l_e rfl (fun K hK => ?_)
                      refine e_call (by kernel_rfl) (range_ok k2 _ _ ps2 of.fb of.tb hoB htB (by first | omega | (simp only [List.length_append, List.length_map, List.length_cons, List.length_nil, List.length_take, List.length_drop, List.length_set] <;> omega)) (by first | omega | (simp only [List.length_append, List.length_map, List.length_cons, List.length_nil, List.length_take, List.length_drop, List.length_set] <;> omega)) of.fb.length of.tb.length (by first | omega | (simp only [List.length_append, List.length_map, List.length_cons, List.length_nil, List.length_take, List.length_drop, List.length_set] <;> omega)) (by first | omega | (simp only [List.length_append, List.length_map, List.length_cons, List.length_nil, List.length_take, List.length_drop, List.length_set] <;> omega)) of.most (by first | decide | omega) (by first | decide | omega) _ _ _ _ (by first | omega | (simp only [List.length_append, List.length_map, List.length_cons, List.length_nil, List.length_take, List.length_drop, List.length_set] <;> omega)) _ (hS136.tr (i := 1) (j := 2) rfl rfl hTm) (hoG.mono hS136.base) (htG.mono hS136.base)) rfl (after_N hS136 (fun v144 G144 w144 hv144 hS144 => ?_))
                      clear hS136
                      obtain ⟨ra144, rc144, es144, rfl, rfl, heq144⟩ := hv144
                      have hS145 : St _ _ [.ow 41 2 ra144 es144.length rc144 (List.flatMap en es144), .pk (epk es144), .ow 5 1 ad56 x34.kb.length cp56 (bv kl), tb k2 ad2 cap2 ps2, .fz g2, .ow 36 2 al2 ((ab ps2).length) cl2 (List.flatMap re (ab ps2)), .blk b2 (.cells #[.slice of.fa of.fb.length of.fc, .slice of.ta of.tb.length of.tc, .int .i64 of.most] 65)] _ := hS144; clear hS144
                      have hfit144 := range_fit hTm heq144
                      have hel144 : es144.length ≤ (flat ps2).length := range_len heq144
                      refine hK _ _ ?_; clear hK K
                      refine l_q rfl rfl (q_assignS rfl) ?_
                      refine l_nil ?_
                      refine hK143 _ _ ?_
                      refine wp_seq_k (fun K146 hK146 => ?_)
                      refine r_any (by kernel_rfl) hS145 (fun w147 hS147 => ?_)
                      clear hS145
                      refine o_pure (i := 0) (fun _ _ => trivial) rfl rfl (by kernel_rfl) (goes0 rfl) (QOk.then (QOk.inBlock (QOk.then (QOk.then (QOk.inBlock (QOk.then QOk.body)))))) (fun w => q_moveS rfl) ?_
                      refine o_pure (i := 2) (fun _ _ => trivial) rfl rfl (by kernel_rfl) (goes0 rfl) (QOk.then (QOk.inBlock (QOk.then (QOk.then (QOk.inBlock (QOk.then QOk.body)))))) (fun w => q_moveS rfl) ?_
                      refine o_pure (i := 3) (fun _ _ => trivial) rfl rfl (by kernel_rfl) (goes0 rfl) (QOk.then (QOk.inBlock (QOk.then (QOk.then (QOk.inBlock (QOk.then QOk.body)))))) (fun w => q_fieldAddr (ft := 23) (o := 0) rfl (by kernel_rfl)) ?_
                      refine o_held (i := 4) [5, 11, 12, 13] (fun _ _ => trivial) rfl rfl (by kernel_rfl) (goes0 rfl) (QOk.then (QOk.inBlock (QOk.then (QOk.then (QOk.inBlock (QOk.then QOk.body)))))) (q_load1 rfl (by kernel_rfl) (hS147.cell (i := 6) rfl rfl)) ?_
                      refine o_held (i := 5) [11, 12, 13] (fun j w => ⟨(fun _ _ => trivial) j w, fun _ h => h⟩) rfl rfl (by kernel_rfl) (goes0 rfl) (QOk.then (QOk.inBlock (QOk.then (QOk.then (QOk.inBlock (QOk.then QOk.body)))))) (q_convBS (l := of.fb) rfl (hoG.mono hS147.base) (by first | omega | (simp only [List.length_append, List.length_map, List.length_cons, List.length_nil, List.length_take, List.length_drop, List.length_set] <;> omega)) (by kernel_rfl) (by kernel_rfl)) ?_
                      refine o_pure (i := 6) (fun j w => ⟨(fun j w => ⟨(fun _ _ => trivial) j w, fun _ h => h⟩) j w, fun _ h => h⟩) rfl rfl (by kernel_rfl) (goes0 rfl) (QOk.then (QOk.inBlock (QOk.then (QOk.then (QOk.inBlock (QOk.then QOk.body)))))) (fun w => q_fieldAddr (ft := 23) (o := 1) rfl (by kernel_rfl)) ?_
                      refine o_held (i := 7) [8, 11, 12, 13] (fun j w => ⟨(fun j w => ⟨(fun _ _ => trivial) j w, fun _ h => h⟩) j w, fun _ h => h⟩) rfl rfl (by kernel_rfl) (goes0 rfl) (QOk.then (QOk.inBlock (QOk.then (QOk.then (QOk.inBlock (QOk.then QOk.body)))))) (q_load1 rfl (by kernel_rfl) (hS147.cell (i := 6) rfl rfl)) ?_
                      refine o_held (i := 8) [11, 12, 13] (fun j w => ⟨(fun j w => ⟨(fun j w => ⟨(fun _ _ => trivial) j w, fun _ h => h⟩) j w, fun _ h => h⟩) j w, fun _ h => h⟩) rfl rfl (by kernel_rfl) (goes0 rfl) (QOk.then (QOk.inBlock (QOk.then (QOk.then (QOk.inBlock (QOk.then QOk.body)))))) (q_convBS (l := of.tb) rfl (htG.mono hS147.base) (by first | omega | (simp only [List.length_append, List.length_map, List.length_cons, List.length_nil, List.length_take, List.length_drop, List.length_set] <;> omega)) (by kernel_rfl) (by kernel_rfl)) ?_
                      refine o_pure (i := 9) (fun j w => ⟨(fun j w => ⟨(fun j w => ⟨(fun j w => ⟨(fun _ _ => trivial) j w, fun _ h => h⟩) j w, fun _ h => h⟩) j w, fun _ h => h⟩) j w, fun _ h => h⟩) rfl rfl (by kernel_rfl) (goes0 rfl) (QOk.then (QOk.inBlock (QOk.then (QOk.then (QOk.inBlock (QOk.then QOk.body)))))) (fun w => q_fieldAddr (ft := 3) (o := 2) rfl (by kernel_rfl)) ?_
                      refine o_held (i := 10) [11, 12, 13] (fun j w => ⟨(fun j w => ⟨(fun j w => ⟨(fun j w => ⟨(fun _ _ => trivial) j w, fun _ h => h⟩) j w, fun _ h => h⟩) j w, fun _ h => h⟩) j w, fun _ h => h⟩) rfl rfl (by kernel_rfl) (goes0 rfl) (QOk.then (QOk.inBlock (QOk.then (QOk.then (QOk.inBlock (QOk.then QOk.body)))))) (q_load1 rfl (by kernel_rfl) (hS147.cell (i := 6) rfl rfl)) ?_
                      refine o_eff (i := 1) (by kernel_rfl) rfl (goes0 rfl) (fun K hK => ?_)
                      have hkb148 : KB (rangeB (ab ps2) of.fb of.tb (of.most).toNat) := KB.rng (KB.ofAb hTm)
                      have hrl148 : (rangeB (ab ps2) of.fb of.tb (of.most).toNat).length ≤ (ab ps2).length := rangeB_le
                      have hesl : es144.length = (rangeB (ab ps2) of.fb of.tb (of.most).toNat).length := by rw [← heq144]; exact (List.length_map _).symm
                      refine e_call (by kernel_rfl) (told2_ok es144 (rangeB (ab ps2) of.fb of.tb (of.most).toNat) heq144 _ rfl (by first | omega | (simp only [List.length_append, List.length_map, List.length_cons, List.length_nil, List.length_take, List.length_drop, List.length_set] <;> omega)) _ _ _ (fun a ha => ⟨(hS147.epkG (i := 1) rfl a ha).1, (hfit144 a ha).1, (hS147.epkG (i := 1) rfl a ha).2, (hfit144 a ha).2.1⟩) (hS147.owG (i := 0) rfl)) rfl (after_N hS147 (fun v148 G148 w148 hv148 hS148 => ?_))
                      clear hS147
                      obtain ⟨oa148, oc148, rfl, rfl⟩ := hv148
                      have hS149 : St _ _ [.ow 36 2 oa148 ((rangeB (ab ps2) of.fb of.tb (of.most).toNat).length) oc148 (List.flatMap re (rangeB (ab ps2) of.fb of.tb (of.most).toNat)), .ow 41 2 ra144 es144.length rc144 (List.flatMap en es144), .pk (epk es144), .ow 5 1 ad56 x34.kb.length cp56 (bv kl), tb k2 ad2 cap2 ps2, .fz g2, .ow 36 2 al2 ((ab ps2).length) cl2 (List.flatMap re (ab ps2)), .blk b2 (.cells #[.slice of.fa of.fb.length of.fc, .slice of.ta of.tb.length of.tc, .int .i64 of.most] 65)] _ := hS148; clear hS148
                      refine hK _ _ ⟨⟨⟨⟨⟨trivial, fun _ _ => by first | exact q_load1 rfl (by kernel_rfl) (hS149.cell (i := 7) rfl rfl)⟩, fun _ _ => by first | exact q_convBS (l := of.fb) rfl (hoG.mono hS149.base) (by first | omega | (simp only [List.length_append, List.length_map, List.length_cons, List.length_nil, List.length_take, List.length_drop, List.length_set] <;> omega)) (by kernel_rfl) (by kernel_rfl)⟩, fun _ _ => by first | exact q_load1 rfl (by kernel_rfl) (hS149.cell (i := 7) rfl rfl)⟩, fun _ _ => by first | exact q_convBS (l := of.tb) rfl (htG.mono hS149.base) (by first | omega | (simp only [List.length_append, List.length_map, List.length_cons, List.length_nil, List.length_take, List.length_drop, List.length_set] <;> omega)) (by kernel_rfl) (by kernel_rfl)⟩, fun _ _ => by first | exact q_load1 rfl (by kernel_rfl) (hS149.cell (i := 7) rfl rfl)⟩ ?_; clear hK K
                      refine o_eff (i := 11) (by kernel_rfl) rfl (goes0 rfl) (fun K hK => ?_)
                      refine e_call (by kernel_rfl) (rrange_ok (ab ps2) (KB.ofAb hTm) (by first | omega | (simp only [List.length_append, List.length_map, List.length_cons, List.length_nil, List.length_take, List.length_drop, List.length_set] <;> omega)) _ _ of.fb of.tb hoB htB of.most (by first | decide | omega) (by first | decide | omega) _ (hS149.owG (i := 6) rfl)) rfl (after_N hS149 (fun v150 G150 w150 hv150 hS150 => ?_))
                      clear hS149
                      obtain ⟨oa150, oc150, rfl, rfl⟩ := hv150
                      have hS151 : St _ _ [.ow 36 2 oa150 ((rangeB (ab ps2) of.fb of.tb (of.most).toNat).length) oc150 (List.flatMap re (rangeB (ab ps2) of.fb of.tb (of.most).toNat)), .ow 36 2 oa148 ((rangeB (ab ps2) of.fb of.tb (of.most).toNat).length) oc148 (List.flatMap re (rangeB (ab ps2) of.fb of.tb (of.most).toNat)), .ow 41 2 ra144 es144.length rc144 (List.flatMap en es144), .pk (epk es144), .ow 5 1 ad56 x34.kb.length cp56 (bv kl), tb k2 ad2 cap2 ps2, .fz g2, .ow 36 2 al2 ((ab ps2).length) cl2 (List.flatMap re (ab ps2)), .blk b2 (.cells #[.slice of.fa of.fb.length of.fc, .slice of.ta of.tb.length of.tc, .int .i64 of.most] 65)] _ := hS150; clear hS150
                      refine hK _ _ ⟨⟨⟨⟨⟨trivial, fun h => absurd h (by decide)⟩, fun h => absurd h (by decide)⟩, fun h => absurd h (by decide)⟩, fun h => absurd h (by decide)⟩, fun h => absurd h (by decide)⟩ ?_; clear hK K
                      refine o_eff (i := 12) (by kernel_rfl) rfl (goes0 rfl) (fun K hK => ?_)
                      refine e_call (by kernel_rfl) (rsame_ok (rangeB (ab ps2) of.fb of.tb (of.most).toNat) (rangeB (ab ps2) of.fb of.tb (of.most).toNat) hkb148 (KB.rng (KB.ofAb hTm)) ((rangeB (ab ps2) of.fb of.tb (of.most).toNat).length) ((rangeB (ab ps2) of.fb of.tb (of.most).toNat).length) (by first | omega | (simp only [List.length_append, List.length_map, List.length_cons, List.length_nil, List.length_take, List.length_drop, List.length_set] <;> omega)) (by first | omega | (simp only [List.length_append, List.length_map, List.length_cons, List.length_nil, List.length_take, List.length_drop, List.length_set] <;> omega)) (by first | omega | (simp only [List.length_append, List.length_map, List.length_cons, List.length_nil, List.length_take, List.length_drop, List.length_set] <;> omega)) (by first | omega | (simp only [List.length_append, List.length_map, List.length_cons, List.length_nil, List.length_take, List.length_drop, List.length_set] <;> omega)) _ _ _ _ _ (hS151.owG (i := 1) rfl) (hS151.owG (i := 0) rfl)) rfl (after_R hS151 (fun v152 w152 hv152 hS152 => ?_))
                      clear hS151
                      obtain rfl := hv152
                      refine hK _ _ ⟨⟨⟨⟨⟨trivial, fun h => absurd h (by decide)⟩, fun h => absurd h (by decide)⟩, fun h => absurd h (by decide)⟩, fun h => absurd h (by decide)⟩, fun h => absurd h (by decide)⟩ ?_; clear hK K
                      refine o_pure (i := 13) (fun j w => ⟨(fun j w => ⟨(fun j w => ⟨(fun j w => ⟨(fun j w => ⟨(fun _ _ => trivial) j w, fun _ h => h⟩) j w, fun _ h => h⟩) j w, fun _ h => h⟩) j w, fun _ h => h⟩) j w, fun _ h => h⟩) rfl rfl (by kernel_rfl) (goes0 rfl) (QOk.then (QOk.inBlock (QOk.then (QOk.then (QOk.inBlock (QOk.then QOk.body)))))) (fun w => q_assignB rfl) ?_
                      refine o_done (by kernel_rfl) ?_
                      refine hK146 _ _ ?_
                      refine wp_seq_k (fun K153 hK153 => ?_)
                      refine wp_seq_k (fun K154 hK154 => ?_)
                      refine wp_region_lit ?_
                      refine l_q rfl rfl (q_assignI rfl) ?_
                      refine l_nil ?_
                      refine hK154 _ _ ?_
                      refine wp_block ?_
                      have hS155 := hS152.fr3; clear hS152
                      have hS156 := hS155.fr3; clear hS155
                      have hS157 := hS156.fr8; clear hS156
                      have hS158 := hS157.fr8; clear hS157
                      have hS159 := hS158.fr8; clear hS158
                      have hS160 := hS159.fr8; clear hS159
                      have hS161 : St _ _ [tb k2 ad2 cap2 ps2, .fz g2, .ow 36 2 al2 ((ab ps2).length) cl2 (List.flatMap re (ab ps2)), .blk b2 (.cells #[.slice of.fa of.fb.length of.fc, .slice of.ta of.tb.length of.tc, .int .i64 of.most] 65), .ow 41 2 ra144 es144.length rc144 (List.flatMap en es144), .pk (epk es144)] _ := hS160.only 6; clear hS160
                      refine c_loop (τ := Nat × (List En)) [(21, 22), (172, 203)] (fun x => (fun (jx : Nat) (es_ : List En) => [(21, .int .i64 ((jx : Nat) : Int))]) x.1 x.2) (fun x w' => (fun (jx : Nat) (es_ : List En) => St w (fun _ => False) [tb k2 ad2 cap2 ps2, .fz g2, .ow 36 2 al2 ((ab ps2).length) cl2 (List.flatMap re (ab ps2)), .blk b2 (.cells #[.slice of.fa of.fb.length of.fc, .slice of.ta of.tb.length of.tc, .int .i64 of.most] 65), .ow 41 2 ra144 es144.length rc144 (List.flatMap en es_), .pk (epk es_)] w' ∧ jx ≤ es144.length ∧ es_.length = es144.length ∧ (∀ a ∈ es_, Bytes a.rb ∧ a.rb.length ≤ 1000000)) x.1 x.2) (fun x => (fun (jx : Nat) (es_ : List En) => es144.length - jx) x.1 x.2) (⟨0, es144⟩) ?_ (by repeat' (first | exact trivial | refine ⟨by first | rfl | exact int_succ _ | assumption, ?_⟩)) (fun x162 j162 w162 hJ162 K162 hK162 => ?_)
                      ·
                        exact ⟨hS161, Nat.zero_le _, rfl, fun a ha => ⟨(hfit144 a ha).2.1, (hfit144 a ha).2.2.2⟩⟩
                      ·
                        obtain ⟨jx, es_⟩ := x162
                        obtain ⟨hS162, hjx, hesx, hrbx⟩ := hJ162
                        try dsimp only at hS162 hjx hesx hrbx ⊢
                        refine wp_seq_k (fun K163 hK163 => ?_)
                        refine wp_seq_k (fun K164 hK164 => ?_)
                        refine wp_region_lit ?_
                        refine l_q rfl rfl (q_moveI rfl) ?_
                        refine l_q rfl rfl (q_moveS rfl) ?_
                        refine l_q rfl rfl (q_lenSl (e := 41) rfl (by kernel_rfl)) ?_
                        refine l_q rfl rfl (q_lss rfl rfl) ?_
                        refine l_nil ?_
                        refine hK164 _ _ ?_
                        refine c_cond rfl (fun hc165 => ?_) (fun hc165 => ?_)
                        ·
                          have hc165b := hc165
                          try simp only [decide_eq_true_eq, decide_eq_false_iff_not, Bool.not_eq_true', Bool.not_eq_false', Bool.and_eq_true, Bool.or_eq_true, Int.not_lt, Int.not_le, ne_eq, Decidable.not_not] at hc165
                          obtain ⟨a, haj⟩ : ∃ a, es_[jx]? = some a := ⟨_, List.getElem?_eq_getElem (by omega)⟩
                          obtain ⟨A, B, rfl, hAj⟩ := split_at haj
                          obtain ⟨hra, hral⟩ := hrbx a (List.mem_append_right _ (.head _))
                          refine wp_skip ?_
                          refine hK163 _ _ ?_
                          refine wp_seq_k (fun K166 hK166 => ?_)
                          refine wp_block ?_
                          refine wp_seq_k (fun K167 hK167 => ?_)
                          refine wp_region_lit ?_
                          refine l_q rfl rfl (q_assignI rfl) ?_
                          refine l_nil ?_
                          refine hK167 _ _ ?_
                          refine wp_block ?_
                          have hS168 := hS162.fr5; clear hS162
                          have hS169 : St _ _ [.ow 5 1 a.ra a.rb.length a.rc (bv a.rb), .pk ((epk A ++ [kp a]) ++ epk B), tb k2 ad2 cap2 ps2, .fz g2, .ow 36 2 al2 ((ab ps2).length) cl2 (List.flatMap re (ab ps2)), .blk b2 (.cells #[.slice of.fa of.fb.length of.fc, .slice of.ta of.tb.length of.tc, .int .i64 of.most] 65), .ow 41 2 ra144 es144.length rc144 (List.flatMap en (A ++ a :: B))] _ := epk_take hS168; clear hS168
                          have hS170 := hS169.fr1; clear hS169
                          have hS171 := hS170.fr6; clear hS170
                          have hS172 := hS171.fr6; clear hS171
                          have hS173 := hS172.fr6; clear hS172
                          have hS174 := hS173.fr6; clear hS173
                          have hS175 := hS174.fr6; clear hS174
                          have hS176 := hS175.fr6; clear hS175
                          refine c_loop (τ := Nat × (List Nat)) [(22, 22), (178, 203)] (fun x => (fun (nx : Nat) (rl : List Nat) => [(22, .int .i64 ((nx : Nat) : Int))]) x.1 x.2) (fun x w' => (fun (nx : Nat) (rl : List Nat) => St w (fun _ => False) [.ow 5 1 a.ra a.rb.length a.rc (bv rl), tb k2 ad2 cap2 ps2, .fz g2, .ow 36 2 al2 ((ab ps2).length) cl2 (List.flatMap re (ab ps2)), .blk b2 (.cells #[.slice of.fa of.fb.length of.fc, .slice of.ta of.tb.length of.tc, .int .i64 of.most] 65), .ow 41 2 ra144 es144.length rc144 (List.flatMap en (A ++ a :: B)), .pk ((epk A ++ [kp a]) ++ epk B)] w' ∧ nx ≤ a.rb.length ∧ Bytes rl ∧ rl.length = a.rb.length) x.1 x.2) (fun x => (fun (nx : Nat) (rl : List Nat) => a.rb.length - nx) x.1 x.2) (⟨0, a.rb⟩) ?_ (by repeat' (first | exact trivial | refine ⟨by first | rfl | exact int_succ _ | assumption, ?_⟩)) (fun x177 j177 w177 hJ177 K177 hK177 => ?_)
                          ·
                            exact ⟨hS176, Nat.zero_le _, hra, rfl⟩
                          ·
                            obtain ⟨nx, rl⟩ := x177
                            obtain ⟨hS177, hnx, hrB, hrll⟩ := hJ177
                            try dsimp only at hS177 hnx hrB hrll ⊢
                            refine wp_seq_k (fun K178 hK178 => ?_)
                            refine wp_seq_k (fun K179 hK179 => ?_)
                            refine wp_region_lit ?_
                            refine l_q rfl rfl (q_moveI rfl) ?_
                            refine l_q rfl rfl (q_moveS rfl) ?_
                            refine l_q rfl rfl (q_moveI rfl) ?_
                            refine l_q rfl rfl (q_ixG (e := 41) (m := 2) (j := jx) rfl rfl (by kernel_rfl) (by kernel_rfl) (by first | rfl | omega) (by omega) (hS177.owG (i := 5) rfl) (by rw [rows_len (c := en) (m := 2) (fun _ => rfl)]; first | omega | (simp only [List.length_append, List.length_map, List.length_cons, List.length_nil, List.length_take, List.length_drop, List.length_set] <;> omega))) ?_
                            refine l_q rfl rfl (q_fieldG (ft := 23) (o := 1) rfl (by kernel_rfl)) ?_
                            refine l_q rfl rfl (q_load1 rfl (by kernel_rfl) (SlG.cell (hS177.owG (i := 5) rfl) (Gle.refl _) (row_at haj (c := en) (m := 2) (fun _ => rfl) (j := 1) rfl))) ?_
                            refine l_q rfl rfl (q_lenSl (e := 5) rfl (by kernel_rfl)) ?_
                            refine l_q rfl rfl (q_lss rfl rfl) ?_
                            refine l_nil ?_
                            refine hK179 _ _ ?_
                            refine c_cond rfl (fun hc180 => ?_) (fun hc180 => ?_)
                            ·
                              have hc180b := hc180
                              try simp only [decide_eq_true_eq, decide_eq_false_iff_not, Bool.not_eq_true', Bool.not_eq_false', Bool.and_eq_true, Bool.or_eq_true, Int.not_lt, Int.not_le, ne_eq, Decidable.not_not] at hc180
                              refine wp_skip ?_
                              refine hK178 _ _ ?_
                              refine wp_seq_k (fun K181 hK181 => ?_)
                              refine wp_block ?_
                              refine r_any (by kernel_rfl) hS177 (fun w182 hS182 => ?_)
                              clear hS177
                              refine o_pure (i := 0) (fun _ _ => trivial) rfl rfl (by kernel_rfl) (goes0 rfl) (QOk.inBlock (QOk.then (QOk.then (QOk.inBlock (QOk.inBlock (QOk.then (QOk.then (QOk.inBlock (QOk.then (QOk.inBlock (QOk.then (QOk.then (QOk.inBlock (QOk.then QOk.body)))))))))))))) (fun w => q_moveS rfl) ?_
                              refine o_pure (i := 1) (fun _ _ => trivial) rfl rfl (by kernel_rfl) (goes0 rfl) (QOk.inBlock (QOk.then (QOk.then (QOk.inBlock (QOk.inBlock (QOk.then (QOk.then (QOk.inBlock (QOk.then (QOk.inBlock (QOk.then (QOk.then (QOk.inBlock (QOk.then QOk.body)))))))))))))) (fun w => q_moveI rfl) ?_
                              refine o_pure (i := 2) (fun _ _ => trivial) rfl rfl (by kernel_rfl) (goes0 rfl) (QOk.inBlock (QOk.then (QOk.then (QOk.inBlock (QOk.inBlock (QOk.then (QOk.then (QOk.inBlock (QOk.then (QOk.inBlock (QOk.then (QOk.then (QOk.inBlock (QOk.then QOk.body)))))))))))))) (fun w => q_ixG (e := 41) (m := 2) (j := jx) rfl rfl (by kernel_rfl) (by kernel_rfl) (by first | rfl | omega) (by omega) (hS182.owG (i := 5) rfl) (by rw [rows_len (c := en) (m := 2) (fun _ => rfl)]; first | omega | (simp only [List.length_append, List.length_map, List.length_cons, List.length_nil, List.length_take, List.length_drop, List.length_set] <;> omega))) ?_
                              refine o_pure (i := 3) (fun _ _ => trivial) rfl rfl (by kernel_rfl) (goes0 rfl) (QOk.inBlock (QOk.then (QOk.then (QOk.inBlock (QOk.inBlock (QOk.then (QOk.then (QOk.inBlock (QOk.then (QOk.inBlock (QOk.then (QOk.then (QOk.inBlock (QOk.then QOk.body)))))))))))))) (fun w => q_fieldG (ft := 23) (o := 1) rfl (by kernel_rfl)) ?_
                              refine o_held (i := 4) [15, 16] (fun _ _ => trivial) rfl rfl (by kernel_rfl) (goes0 rfl) (QOk.inBlock (QOk.then (QOk.then (QOk.inBlock (QOk.inBlock (QOk.then (QOk.then (QOk.inBlock (QOk.then (QOk.inBlock (QOk.then (QOk.then (QOk.inBlock (QOk.then QOk.body)))))))))))))) (q_load1 rfl (by kernel_rfl) (SlG.cell (hS182.owG (i := 5) rfl) (Gle.refl _) (row_at haj (c := en) (m := 2) (fun _ => rfl) (j := 1) rfl))) ?_
                              refine o_pure (i := 5) (fun j w => ⟨(fun _ _ => trivial) j w, fun _ h => h⟩) rfl rfl (by kernel_rfl) (goes0 rfl) (QOk.inBlock (QOk.then (QOk.then (QOk.inBlock (QOk.inBlock (QOk.then (QOk.then (QOk.inBlock (QOk.then (QOk.inBlock (QOk.then (QOk.then (QOk.inBlock (QOk.then QOk.body)))))))))))))) (fun w => q_moveI rfl) ?_
                              refine o_pure (i := 6) (fun j w => ⟨(fun _ _ => trivial) j w, fun _ h => h⟩) rfl rfl (by kernel_rfl) (goes0 rfl) (QOk.inBlock (QOk.then (QOk.then (QOk.inBlock (QOk.inBlock (QOk.then (QOk.then (QOk.inBlock (QOk.then (QOk.inBlock (QOk.then (QOk.then (QOk.inBlock (QOk.then QOk.body)))))))))))))) (fun w => q_moveS rfl) ?_
                              refine o_pure (i := 7) (fun j w => ⟨(fun _ _ => trivial) j w, fun _ h => h⟩) rfl rfl (by kernel_rfl) (goes0 rfl) (QOk.inBlock (QOk.then (QOk.then (QOk.inBlock (QOk.inBlock (QOk.then (QOk.then (QOk.inBlock (QOk.then (QOk.inBlock (QOk.then (QOk.then (QOk.inBlock (QOk.then QOk.body)))))))))))))) (fun w => q_moveI rfl) ?_
                              refine o_pure (i := 8) (fun j w => ⟨(fun _ _ => trivial) j w, fun _ h => h⟩) rfl rfl (by kernel_rfl) (goes0 rfl) (QOk.inBlock (QOk.then (QOk.then (QOk.inBlock (QOk.inBlock (QOk.then (QOk.then (QOk.inBlock (QOk.then (QOk.inBlock (QOk.then (QOk.then (QOk.inBlock (QOk.then QOk.body)))))))))))))) (fun w => q_ixG (e := 41) (m := 2) (j := jx) rfl rfl (by kernel_rfl) (by kernel_rfl) (by first | rfl | omega) (by omega) (hS182.owG (i := 5) rfl) (by rw [rows_len (c := en) (m := 2) (fun _ => rfl)]; first | omega | (simp only [List.length_append, List.length_map, List.length_cons, List.length_nil, List.length_take, List.length_drop, List.length_set] <;> omega))) ?_
                              refine o_pure (i := 9) (fun j w => ⟨(fun _ _ => trivial) j w, fun _ h => h⟩) rfl rfl (by kernel_rfl) (goes0 rfl) (QOk.inBlock (QOk.then (QOk.then (QOk.inBlock (QOk.inBlock (QOk.then (QOk.then (QOk.inBlock (QOk.then (QOk.inBlock (QOk.then (QOk.then (QOk.inBlock (QOk.then QOk.body)))))))))))))) (fun w => q_fieldG (ft := 23) (o := 1) rfl (by kernel_rfl)) ?_
                              refine o_held (i := 10) [12, 13, 14, 15, 16] (fun j w => ⟨(fun _ _ => trivial) j w, fun _ h => h⟩) rfl rfl (by kernel_rfl) (goes0 rfl) (QOk.inBlock (QOk.then (QOk.then (QOk.inBlock (QOk.inBlock (QOk.then (QOk.then (QOk.inBlock (QOk.then (QOk.inBlock (QOk.then (QOk.then (QOk.inBlock (QOk.then QOk.body)))))))))))))) (q_load1 rfl (by kernel_rfl) (SlG.cell (hS182.owG (i := 5) rfl) (Gle.refl _) (row_at haj (c := en) (m := 2) (fun _ => rfl) (j := 1) rfl))) ?_
                              refine o_pure (i := 11) (fun j w => ⟨(fun j w => ⟨(fun _ _ => trivial) j w, fun _ h => h⟩) j w, fun _ h => h⟩) rfl rfl (by kernel_rfl) (goes0 rfl) (QOk.inBlock (QOk.then (QOk.then (QOk.inBlock (QOk.inBlock (QOk.then (QOk.then (QOk.inBlock (QOk.then (QOk.inBlock (QOk.then (QOk.then (QOk.inBlock (QOk.then QOk.body)))))))))))))) (fun w => q_moveI rfl) ?_
                              refine o_pure (i := 12) (fun j w => ⟨(fun j w => ⟨(fun _ _ => trivial) j w, fun _ h => h⟩) j w, fun _ h => h⟩) rfl rfl (by kernel_rfl) (goes0 rfl) (QOk.inBlock (QOk.then (QOk.then (QOk.inBlock (QOk.inBlock (QOk.then (QOk.then (QOk.inBlock (QOk.then (QOk.inBlock (QOk.then (QOk.then (QOk.inBlock (QOk.then QOk.body)))))))))))))) (fun w => q_ixG (e := 5) (m := 1) (j := nx) rfl rfl (by kernel_rfl) (by kernel_rfl) (by first | rfl | omega) (by omega) (hS182.owG (i := 0) rfl) (by rw [bv_len]; first | omega | (simp only [List.length_append, List.length_map, List.length_cons, List.length_nil, List.length_take, List.length_drop, List.length_set] <;> omega))) ?_
                              obtain ⟨x183, hx183⟩ : ∃ x, (rl)[nx]? = some x := ⟨_, List.getElem?_eq_getElem (by first | omega | (simp only [List.length_append, List.length_map, List.length_cons, List.length_nil, List.length_take, List.length_drop, List.length_set] <;> omega) | (simp <;> omega))⟩
                              have hb183 : x183 < 256 := hrB x183 (List.mem_of_getElem? hx183)
                              refine o_held (i := 13) [14, 15, 16] (fun j w => ⟨(fun j w => ⟨(fun _ _ => trivial) j w, fun _ h => h⟩) j w, fun _ h => h⟩) rfl rfl (by kernel_rfl) (goes0 rfl) (QOk.inBlock (QOk.then (QOk.then (QOk.inBlock (QOk.inBlock (QOk.then (QOk.then (QOk.inBlock (QOk.then (QOk.inBlock (QOk.then (QOk.then (QOk.inBlock (QOk.then QOk.body)))))))))))))) (q_load1 rfl (by kernel_rfl) (SlG.cell (hS182.owG (i := 0) rfl) (Gle.refl _) (at1 (bv_at hx183)))) ?_
                              refine o_pure (i := 14) (fun j w => ⟨(fun j w => ⟨(fun j w => ⟨(fun _ _ => trivial) j w, fun _ h => h⟩) j w, fun _ h => h⟩) j w, fun _ h => h⟩) rfl rfl (by kernel_rfl) (goes0 rfl) (QOk.inBlock (QOk.then (QOk.then (QOk.inBlock (QOk.inBlock (QOk.then (QOk.then (QOk.inBlock (QOk.then (QOk.inBlock (QOk.then (QOk.then (QOk.inBlock (QOk.then QOk.body)))))))))))))) (fun w => q_xorN (a := x183) (b := 255) 8 rfl rfl (by omega) (by omega) (.inl ⟨rfl, rfl⟩)) ?_
                              refine o_pure (i := 15) (fun j w => ⟨(fun j w => ⟨(fun j w => ⟨(fun _ _ => trivial) j w, fun _ h => h⟩) j w, fun _ h => h⟩) j w, fun _ h => h⟩) rfl rfl (by kernel_rfl) (goes0 rfl) (QOk.inBlock (QOk.then (QOk.then (QOk.inBlock (QOk.inBlock (QOk.then (QOk.then (QOk.inBlock (QOk.then (QOk.inBlock (QOk.then (QOk.then (QOk.inBlock (QOk.then QOk.body)))))))))))))) (fun w => q_ixG (e := 5) (m := 1) (j := nx) rfl rfl (by kernel_rfl) (by kernel_rfl) (by first | rfl | omega) (by omega) (hS182.owG (i := 0) rfl) (by rw [bv_len]; first | omega | (simp only [List.length_append, List.length_map, List.length_cons, List.length_nil, List.length_take, List.length_drop, List.length_set] <;> omega))) ?_
                              refine o_eff (i := 16) (by kernel_rfl) rfl (goes0 rfl) (fun K hK => ?_)
                              refine e_stOw hS182 rfl rfl (by kernel_rfl) (by first | rfl | assumption) (i := 0) rfl (by omega) bv_set1 (fun w184 (hS184 : St _ _ [.ow 5 1 a.ra a.rb.length a.rc (bv (rl.set nx (x183 ^^^ 255))), tb k2 ad2 cap2 ps2, .fz g2, .ow 36 2 al2 ((ab ps2).length) cl2 (List.flatMap re (ab ps2)), .blk b2 (.cells #[.slice of.fa of.fb.length of.fc, .slice of.ta of.tb.length of.tc, .int .i64 of.most] 65), .ow 41 2 ra144 es144.length rc144 (List.flatMap en (A ++ a :: B)), .pk ((epk A ++ [kp a]) ++ epk B)] _) => ?_)
                              clear hS182
                              have hB184 : Bytes (rl.set nx (x183 ^^^ 255)) := Bytes.set hrB (by first | omega | exact Nat.xor_lt_two_pow (n := 8) (by omega) (by omega))
                              refine hK _ _ ⟨⟨⟨trivial, fun h => absurd h (by decide)⟩, fun h => absurd h (by decide)⟩, fun h => absurd h (by decide)⟩ ?_; clear hK K
                              refine o_done (by kernel_rfl) ?_
                              refine hK181 _ _ ?_
                              refine wp_region_lit ?_
                              refine l_q rfl rfl (q_moveI rfl) ?_
                              refine l_q rfl rfl (q_addx rfl rfl (by first | decide | omega) (by first | decide | omega)) ?_
                              refine l_q rfl rfl (q_assignI rfl) ?_
                              refine l_nil ?_
                              refine hK177 _ _ (came (⟨(nx + 1), (rl.set nx (x183 ^^^ 255))⟩) (by repeat' (first | exact Agree.refl _ _ | refine Agree.up ?_ rfl | refine Agree.hav2 ?_ rfl | refine Agree.ups2 ?_ rfl)) (by repeat' (first | exact trivial | refine ⟨by first | rfl | exact int_succ _ | assumption, ?_⟩)) ?_)
                              exact ⟨⟨hS184, (by show nx + 1 ≤ a.rb.length; omega), hB184, (by show (rl.set nx (x183 ^^^ 255)).length = _; simp only [List.length_set]; exact hrll)⟩, by (show a.rb.length - (nx + 1) < a.rb.length - nx); omega⟩
                            ·
                              have hc180b := hc180
                              try simp only [decide_eq_true_eq, decide_eq_false_iff_not, Bool.not_eq_true', Bool.not_eq_false', Bool.and_eq_true, Bool.or_eq_true, Int.not_lt, Int.not_le, ne_eq, Decidable.not_not] at hc180
                              refine wp_exit ?_
                              refine hK166 _ _ ?_
                              refine wp_region_lit ?_
                              refine l_q rfl rfl (q_moveI rfl) ?_
                              refine l_q rfl rfl (q_addx rfl rfl (by first | decide | omega) (by first | decide | omega)) ?_
                              refine l_q rfl rfl (q_assignI rfl) ?_
                              refine l_nil ?_
                              have hS185 := hS177.fr6; clear hS177
                              have hS186 := hS185.fr1; clear hS185
                              have hS187 : St _ _ [.pk (epk (A ++ (En.mk a.ka a.kc a.kb a.ra a.rc rl) :: B)), tb k2 ad2 cap2 ps2, .fz g2, .ow 36 2 al2 ((ab ps2).length) cl2 (List.flatMap re (ab ps2)), .blk b2 (.cells #[.slice of.fa of.fb.length of.fc, .slice of.ta of.tb.length of.tc, .int .i64 of.most] 65), .ow 41 2 ra144 es144.length rc144 (List.flatMap en (A ++ a :: B))] _ := epk_put hS186 hrll; clear hS186
                              have hS188 : St _ _ [.pk (epk (A ++ (En.mk a.ka a.kc a.kb a.ra a.rc rl) :: B)), tb k2 ad2 cap2 ps2, .fz g2, .ow 36 2 al2 ((ab ps2).length) cl2 (List.flatMap re (ab ps2)), .blk b2 (.cells #[.slice of.fa of.fb.length of.fc, .slice of.ta of.tb.length of.tc, .int .i64 of.most] 65), .ow 41 2 ra144 es144.length rc144 (List.flatMap en (A ++ (En.mk a.ka a.kc a.kb a.ra a.rc rl) :: B))] _ := hS187.cast (by rw [en_same hrll]); clear hS187
                              have hS189 := hS188.fr5; clear hS188
                              have hS190 := hS189.fr5; clear hS189
                              have hS191 := hS190.fr5; clear hS190
                              have hS192 := hS191.fr5; clear hS191
                              have hS193 := hS192.fr5; clear hS192
                              refine hK162 _ _ (came (⟨(jx + 1), (A ++ (En.mk a.ka a.kc a.kb a.ra a.rc rl) :: B)⟩) (by repeat' (first | exact Agree.refl _ _ | refine Agree.up ?_ rfl | refine Agree.hav2 ?_ rfl | refine Agree.ups2 ?_ rfl)) (by repeat' (first | exact trivial | refine ⟨by first | rfl | exact int_succ _ | assumption, ?_⟩)) ?_)
                              exact ⟨⟨hS193, (by show jx + 1 ≤ es144.length; omega), (by show (A ++ En.mk a.ka a.kc a.kb a.ra a.rc rl :: B).length = _; rw [← hesx]; simp), bytes_mid hrbx ⟨hrB, by (show rl.length ≤ 1000000); omega⟩⟩, by (show es144.length - (jx + 1) < es144.length - jx); omega⟩
                        ·
                          have hc165b := hc165
                          try simp only [decide_eq_true_eq, decide_eq_false_iff_not, Bool.not_eq_true', Bool.not_eq_false', Bool.and_eq_true, Bool.or_eq_true, Int.not_lt, Int.not_le, ne_eq, Decidable.not_not] at hc165
                          refine wp_exit ?_
                          refine hK153 _ _ ?_
                          refine wp_seq_k (fun K194 hK194 => ?_)
                          refine wp_region_lit ?_
                          refine l_q rfl rfl (q_moveB rfl) ?_
                          refine l_q rfl rfl (q_not rfl) ?_
                          refine l_q rfl rfl (q_moveB rfl) ?_
                          refine l_on rfl rfl (by rw [show _ = _ from (decide_eq_true rfl)]; rfl) ?_
                          refine l_q rfl rfl (q_moveP rfl) ?_
                          refine l_on rfl rfl (by rw [show _ = _ from (decide_eq_true rfl)]; rfl) ?_
                          refine l_e rfl (fun K hK => ?_)
                          refine e_call (by kernel_rfl) (tlen_ok k2 _ _ ps2 _ (hS162.tr (i := 0) (j := 1) rfl rfl hTm)) rfl (after_R hS162 (fun v195 w195 hv195 hS195 => ?_))
                          clear hS162
                          obtain rfl := hv195
                          refine hK _ _ ?_; clear hK K
                          refine l_on rfl rfl (by rw [show _ = _ from (decide_eq_true rfl)]; rfl) ?_
                          refine l_q rfl rfl (q_moveS rfl) ?_
                          refine l_on rfl rfl (by rw [show _ = _ from (decide_eq_true rfl)]; rfl) ?_
                          refine l_q rfl rfl (q_lenSl (e := 36) rfl (by kernel_rfl)) ?_
                          refine l_on rfl rfl (by rw [show _ = _ from (decide_eq_true rfl)]; rfl) ?_
                          refine l_q rfl rfl (q_neq rfl rfl) ?_
                          refine l_q rfl rfl (q_pickF rfl (by rw [show _ = _ from (decide_eq_true rfl)]; rfl) rfl) ?_
                          refine l_nil ?_
                          refine hK194 _ _ ?_
                          refine c_cond rfl (fun hc196 => ?_) (fun hc196 => ?_)
                          ·
                            have hc196b := hc196
                            try simp only [decide_eq_true_eq, decide_eq_false_iff_not, Bool.not_eq_true', Bool.not_eq_false', Bool.and_eq_true, Bool.or_eq_true, Int.not_lt, Int.not_le, ne_eq, Decidable.not_not] at hc196
                            omega
                          ·
                            have hc196b := hc196
                            try simp only [decide_eq_true_eq, decide_eq_false_iff_not, Bool.not_eq_true', Bool.not_eq_false', Bool.and_eq_true, Bool.or_eq_true, Int.not_lt, Int.not_le, ne_eq, Decidable.not_not] at hc196
                            refine wp_skip ?_
                            refine hK32 _ _ ?_
                            refine wp_region_lit ?_
                            refine l_q rfl rfl (q_moveI rfl) ?_
                            refine l_q rfl rfl (q_addx rfl rfl (by first | decide | omega) (by first | decide | omega)) ?_
                            refine l_q rfl rfl (q_assignI rfl) ?_
                            refine l_nil ?_
                            have hS197 : St _ _ [tb k2 ad2 cap2 ps2, .fz g2, .ow 36 2 al2 ((ab ps2).length) cl2 (List.flatMap re (ab ps2)), .blk b2 (.cells #[.slice of.fa of.fb.length of.fc, .slice of.ta of.tb.length of.tc, .int .i64 of.most] 65)] _ := hS195.only 4; clear hS195
                            refine hK27 _ _ (came (⟨(i + 1), k2, ad2, cap2, ps2, g2, al2, cl2⟩) (by repeat' (first | exact Agree.refl _ _ | refine Agree.up ?_ rfl | refine Agree.hav2 ?_ rfl | refine Agree.ups2 ?_ rfl)) (by repeat' (first | exact trivial | refine ⟨by first | rfl | exact int_succ _ | assumption, ?_⟩)) ?_)
                            exact ⟨⟨hS197, (by show i + 1 ≤ S.length; omega), (by show i + 1 ≤ 150; omega), hTm, (by show (flat ps2).length ≤ i + 1; omega)⟩, by (show S.length - (i + 1) < S.length - i); omega⟩
          ·
            have hc31b := hc31
            try simp only [decide_eq_true_eq, decide_eq_false_iff_not, Bool.not_eq_true', Bool.not_eq_false', Bool.and_eq_true, Bool.or_eq_true, Int.not_lt, Int.not_le, ne_eq, Decidable.not_not] at hc31
            refine wp_exit ?_
            refine hK20 _ _ ?_
            refine wp_seq_k (fun K198 hK198 => ?_)
            refine wp_region_lit ?_
            refine l_q rfl rfl (q_moveP rfl) ?_
            refine l_q rfl rfl (q_moveS rfl) ?_
            refine l_q rfl rfl (q_loadA (m := 3) rfl (by kernel_rfl) (by kernel_rfl) (hS27.blk (i := 3) rfl) rfl rfl) ?_
            refine l_e rfl (fun K hK => ?_)
            refine e_call (by kernel_rfl) (ends_ok k _ _ ps _ _ _ of hTl (by first | omega | (simp only [List.length_append, List.length_map, List.length_cons, List.length_nil, List.length_take, List.length_drop, List.length_set] <;> omega)) hoB htB hof1 hof2 _ _ hoG htG _ (St.rogB (Γ1 := [_, _, _]) hS27) (St.rogB (Γ1 := [_, _, _]) hS27) (St.begin (Γ := [_, _, _]) hS27)) rfl (after_M (Γ1 := [_, _, _]) hS27 (fun v199 G199 w199 hv199 hS199 => ?_))
            clear hS27
            obtain ⟨rfl, rfl⟩ := hv199
            have hS200 : St _ _ [tb k ad cap ps, .fz g, .ow 36 2 al ((ab ps).length) cl (List.flatMap re (ab ps)), .blk b2 (.cells #[.slice of.fa of.fb.length of.fc, .slice of.ta of.tb.length of.tc, .int .i64 of.most] 65)] _ := hS199; clear hS199
            refine hK _ _ ?_; clear hK K
            refine l_q rfl rfl (q_assignB rfl) ?_
            refine l_nil ?_
            refine hK198 _ _ ?_
            refine wp_seq_k (fun K201 hK201 => ?_)
            refine wp_region_lit ?_
            refine l_e rfl (fun K hK => ?_)
            refine e_call (by kernel_rfl) (alive8_ok _) rfl (after_R hS200 (fun v202 w202 hv202 hS202 => ?_))
            clear hS200
            obtain rfl := hv202
            refine hK _ _ ?_; clear hK K
            refine l_q rfl rfl (q_moveB rfl) ?_
            refine l_on rfl rfl rfl ?_
            refine l_q rfl rfl (q_moveB rfl) ?_
            refine l_q rfl rfl (q_pickT rfl rfl rfl) ?_
            refine l_q rfl rfl (q_assignB rfl) ?_
            refine l_nil ?_
            refine hK201 _ _ ?_
            refine wp_ret ?_
            refine c_ret1 rfl rfl ?_
            exact ⟨_, rfl, rfl, hS202.drop⟩
        ·
          have hg30b := hg30
          try simp only [decide_eq_true_eq, decide_eq_false_iff_not, Bool.not_eq_true', Bool.not_eq_false', Bool.and_eq_true, Bool.or_eq_true, Int.not_lt, Int.not_le, ne_eq, Decidable.not_not] at hg30
          refine l_off rfl rfl rfl hg30b ?_
          refine l_off rfl rfl rfl hg30b ?_
          refine l_q rfl rfl (q_pickF rfl hg30b rfl) ?_
          refine l_nil ?_
          refine hK29 _ _ ?_
          refine c_condF rfl rfl ?_
          refine wp_exit ?_
          refine hK20 _ _ ?_
          refine wp_seq_k (fun K204 hK204 => ?_)
          refine wp_region_lit ?_
          refine l_q rfl rfl (q_moveP rfl) ?_
          refine l_q rfl rfl (q_moveS rfl) ?_
          refine l_q rfl rfl (q_loadA (m := 3) rfl (by kernel_rfl) (by kernel_rfl) (hS27.blk (i := 3) rfl) rfl rfl) ?_
          refine l_e rfl (fun K hK => ?_)
          refine e_call (by kernel_rfl) (ends_ok k _ _ ps _ _ _ of hTl (by first | omega | (simp only [List.length_append, List.length_map, List.length_cons, List.length_nil, List.length_take, List.length_drop, List.length_set] <;> omega)) hoB htB hof1 hof2 _ _ hoG htG _ (St.rogB (Γ1 := [_, _, _]) hS27) (St.rogB (Γ1 := [_, _, _]) hS27) (St.begin (Γ := [_, _, _]) hS27)) rfl (after_M (Γ1 := [_, _, _]) hS27 (fun v205 G205 w205 hv205 hS205 => ?_))
          clear hS27
          obtain ⟨rfl, rfl⟩ := hv205
          have hS206 : St _ _ [tb k ad cap ps, .fz g, .ow 36 2 al ((ab ps).length) cl (List.flatMap re (ab ps)), .blk b2 (.cells #[.slice of.fa of.fb.length of.fc, .slice of.ta of.tb.length of.tc, .int .i64 of.most] 65)] _ := hS205; clear hS205
          refine hK _ _ ?_; clear hK K
          refine l_q rfl rfl (q_assignB rfl) ?_
          refine l_nil ?_
          refine hK204 _ _ ?_
          refine wp_seq_k (fun K207 hK207 => ?_)
          refine wp_region_lit ?_
          refine l_e rfl (fun K hK => ?_)
          refine e_call (by kernel_rfl) (alive8_ok _) rfl (after_R hS206 (fun v208 w208 hv208 hS208 => ?_))
          clear hS206
          obtain rfl := hv208
          refine hK _ _ ?_; clear hK K
          refine l_q rfl rfl (q_moveB rfl) ?_
          refine l_on rfl rfl rfl ?_
          refine l_q rfl rfl (q_moveB rfl) ?_
          refine l_q rfl rfl (q_pickT rfl rfl rfl) ?_
          refine l_q rfl rfl (q_assignB rfl) ?_
          refine l_nil ?_
          refine hK207 _ _ ?_
          refine wp_ret ?_
          refine c_ret1 rfl rfl ?_
          exact ⟨_, rfl, rfl, hS208.drop⟩

end Go.Proofs.Ytmbbkliekgiolaa
