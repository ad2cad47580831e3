/- law07: WalPlays. -/
import Derived.Test.YtmbbkliekgiolaaVd
set_option linter.unusedVariables false
set_option linter.unusedSimpArgs false
namespace Go.Proofs.Ytmbbkliekgiolaa
open Go.RowKit
theorem plays0 {g : Gh} {rs rs2 : List Rc} {q : List Nat} (h1 : RsOk g rs) (h2 : RsOk g rs2) (ha : rs.map Rc.abs = (scan [] 0).1) (hb : rs2.map Rc.abs = (scan [] 0).1) (hB : Bytes ([] ++ ([] : List Nat).take (scan [] 0).2 ++ q)) (hN : ([] ++ ([] : List Nat).take (scan [] 0).2 ++ q).length ≤ 0) : PInv g rs rs2 [] (([] : List Nat).take (scan [] 0).2) q (scan [] 0).2 (400 * 0) := PInv.opened (p := []) (L := []) h1 h2 ha hb hB hN
theorem play_rd {rs rs2 : List Rc} {l : List Nat} {b k : Nat} {x : Rc} (hw : Whole l b (rs.map Rc.abs)) (hab : rs2.map Rc.abs = rs.map Rc.abs) (hx : rs2[k]? = some x) : rdE (rs.map Rc.abs) ((x.n : Nat) : Int) = 0 ∧ rdB (rs.map Rc.abs) ((x.n : Nat) : Int) = x.b := by
  have h1 : (rs.map Rc.abs)[k]? = some (x.n, x.b) := by rw [← hab, List.getElem?_map, hx]; rfl
  have h2 := hw.inc.find h1
  unfold rdE rdB
  rw [h2]; exact ⟨rfl, rfl⟩
theorem rdE_71 {R : List (Nat × List Nat)} {z : Int} (h : rdE R z ≠ 0) : rdE R z = 71 := by
  unfold rdE at h ⊢
  split
  · rename_i hh; rw [if_pos hh] at h; exact absurd rfl h
  · rfl
theorem play_find {rs rs2 : List Rc} (hab : rs2.map Rc.abs = rs.map Rc.abs) (z : Int) : decide (((rdE (rs.map Rc.abs) z : Nat) : Int) = 0) = decide (0 ≤ fIdx rs2 z) := by
  rw [fIdx_abs hab]
  have := @rd_iff rs z
  by_cases h : rdE (rs.map Rc.abs) z = 0
  · rw [decide_eq_true (by rw [h]; rfl), decide_eq_true (this.1 h)]
  · rw [decide_eq_false (by omega), decide_eq_false (fun h2 => h (this.2 h2))]
attribute [local irreducible] Oper.wp Sem.run Code.wp wpList wpAnyO callFunc execOp Calls
attribute [local irreducible] scan waE waN waL waR crc cnt rdE rdB fr apE apN apL trE trR trL trB trS tri fIdx numN sameB pwN Whole

set_option maxHeartbeats 4000000 in
set_option maxRecDepth 100000 in
theorem walPlays_ok (acts : List Ac7) (sa : Option Addr) (sc : Nat) (w : World) (hG : SlG (hw w) sa (List.flatMap ac7 acts)) (hok : ∀ a ∈ acts, Ac7Ok w a) : Calls Try.prog 12 #[.slice sa acts.length sc] w (PostR w fun v => v = .bool true) := by
  have hS := St.start w
  refine c_enter Try.func12 rfl rfl rfl ?_
  refine wp_seq_k (fun K1 hK1 => ?_)
  refine wp_region_lit ?_
  refine l_q rfl rfl (q_assignB rfl) ?_
  refine l_nil ?_
  refine hK1 _ _ ?_
  refine wp_seq_k (fun K2 hK2 => ?_)
  have hS3 := hS.fz0; clear hS
  refine wp_region_lit ?_
  refine l_e rfl (fun K hK => ?_)
  refine e_call (by kernel_rfl) (dNew_ok _) rfl (after_N hS3 (fun v4 G4 w4 hv4 hS4 => ?_))
  clear hS3
  obtain ⟨k4, rfl, rfl⟩ := hv4
  have hS5 : St _ _ [dk k4 none 0 [] 0 0, .fz (fun _ => none)] _ := hS4; clear hS4
  refine hK _ _ ?_; clear hK K
  refine l_q rfl rfl (q_assignP rfl) ?_
  refine l_nil ?_
  refine hK2 _ _ ?_
  refine wp_seq_k (fun K6 hK6 => ?_)
  refine wp_region_lit ?_
  refine l_q rfl rfl (q_build (ps := [(0, 1), (1, 1), (2, 1), (3, 1)]) (zv := .agg #[.slice none 0 0, .int .i64 0, .int .i64 0, .int .i64 0]) (by kernel_rfl) (by kernel_rfl) rfl (by repeat' (first | exact trivial | refine ⟨fun _ => by first | rfl | assumption | exact one_if (by assumption), ?_⟩ | refine ⟨fun ⟨_, h⟩ => by simp at h, ?_⟩)) rfl) ?_
  refine l_e rfl (fun K hK => ?_)
  refine e_boxA hS5 rfl (fun b7 w7 (hS7 : St _ _ [.blk b7 (.cells #[.slice none 0 0, .int .i64 (0 : Int), .int .i64 (0 : Int), .int .i64 (0 : Int)] 85), dk k4 none 0 [] 0 0, .fz (fun _ => none)] _) => ?_)
  clear hS5
  refine hK _ _ ?_; clear hK K
  refine l_q rfl rfl (q_assignP rfl) ?_
  refine l_nil ?_
  refine hK6 _ _ ?_
  refine wp_seq_k (fun K8 hK8 => ?_)
  have hS9 : St _ _ [.ow 5 1 none 0 0 (bv []), .blk b7 (.cells #[.slice none 0 0, .int .i64 (0 : Int), .int .i64 (0 : Int), .int .i64 (0 : Int)] 85), dk k4 none 0 [] 0 0, .fz (fun _ => none)] _ := hS7.ow_nil 5 1; clear hS7
  have hS10 := hS9.fr1; clear hS9
  have hS11 : St _ _ [.blk b7 (.cells #[.slice none ((([] : List Nat) ++ ([] : List Nat) ++ ([] : List Nat)).length) 0, .int .i64 ((([] : List Nat).length : Nat) : Int), .int .i64 (((([] : List Nat).length + ([] : List Nat).length) : Nat) : Int), .int .i64 (((([] : List Nat).length + 0) : Nat) : Int)] 85), .ow 5 1 none ((([] : List Nat) ++ ([] : List Nat) ++ ([] : List Nat)).length) 0 (bv (([] : List Nat) ++ ([] : List Nat) ++ ([] : List Nat))), dk k4 none 0 [] 0 0, .fz (fun _ => none)] _ := hS10.cast (by rfl); clear hS10
  have hS12 := rd_close hS11; clear hS11
  refine wp_region_lit ?_
  refine l_q rfl rfl (q_moveP rfl) ?_
  refine l_e rfl (fun K hK => ?_)
  have hsl13 := scan_le [].length [] 0 (Nat.le_refl _)
  have hS14 := hS12.fr2; clear hS12
  have hS15 := hS14.fr2; clear hS14
  refine e_call (by kernel_rfl) (wOpen_ok _ _ _ _ _ _ _ Bytes.nil (by first | omega | (simp only [List.length_append, List.length_map, List.length_cons, List.length_nil, List.length_take, List.length_drop, List.length_set] <;> omega)) (by first | omega | (simp only [List.length_append, List.length_map, List.length_cons, List.length_nil, List.length_take, List.length_drop, List.length_set] <;> omega)) (by first | omega | (simp only [List.length_append, List.length_map, List.length_cons, List.length_nil, List.length_take, List.length_drop, List.length_set] <;> omega)) _ (St.begin (Γ := [_, _]) hS15)) rfl (after_M (Γ1 := [_, _]) hS15 (fun v13 G13 w13 hv13 hS13 => ?_))
  clear hS15
  obtain ⟨k13, ad13, cp13, rs13, da13, dc13, g13, rfl, rfl, hle13, hrs13, hab13⟩ := hv13
  have hS16 : St _ _ [wk k13 k4 ad13 cp13 rs13, dk k4 da13 dc13 ([].take (scan [] 0).2) 0 ((scan [] 0).2), .fz g13, rdk b7 none 0 ([] : List Nat) ([] : List Nat) ([] : List Nat) 0] _ := hS13; clear hS13
  refine hK _ _ ?_; clear hK K
  refine l_q rfl rfl (q_move rfl) ?_
  refine l_q rfl rfl (q_extract rfl rfl) ?_
  refine l_q rfl rfl (q_extract rfl rfl) ?_
  refine l_q rfl rfl (q_assignP rfl) ?_
  refine l_q rfl rfl (q_assignI rfl) ?_
  refine l_nil ?_
  refine hK8 _ _ ?_
  refine wp_seq_k (fun K17 hK17 => ?_)
  refine wp_region_lit ?_
  refine l_q rfl rfl (q_moveP rfl) ?_
  refine l_e rfl (fun K hK => ?_)
  have hRl18 : (([] : List Nat) ++ ([] : List Nat) ++ ([] : List Nat)).length = ([] : List Nat).length + ([] : List Nat).length + ([] : List Nat).length := by rw [List.length_append, List.length_append]
  have hS19 := hS16.fr3; clear hS16
  refine e_call (by kernel_rfl) (vOpen_ok _ _ _ _ _ _ _ Bytes.nil (by first | omega | (simp only [List.length_append, List.length_map, List.length_cons, List.length_nil, List.length_take, List.length_drop, List.length_set] <;> omega)) (by first | omega | (simp only [List.length_append, List.length_map, List.length_cons, List.length_nil, List.length_take, List.length_drop, List.length_set] <;> omega)) _ (St.begin (Γ := [_]) hS19)) rfl (after_M (Γ1 := [_]) hS19 (fun v18 G18 w18 hv18 hS18 => ?_))
  clear hS19
  obtain ⟨k18, ad18, cp18, rs18, q18, g18, rfl, rfl, hrs18, hab18, hB18, hQ18⟩ := hv18
  have hS20 : St _ _ [vk k18 b7 ad18 cp18 rs18, rdk b7 none 0 ([] : List Nat) (([] : List Nat).take (scan ([] : List Nat) ([] : List Nat).length).2) q18 ((scan ([] : List Nat) ([] : List Nat).length).2), .fz g18, wk k13 k4 ad13 cp13 rs13, dk k4 da13 dc13 ([].take (scan [] 0).2) 0 ((scan [] 0).2), .fz g13] _ := hS18; clear hS18
  have hS21 := hS20.fr5; clear hS20
  have hS22 := hS21.fr3; clear hS21
  obtain ⟨g23, hla23, hlb23, hS23⟩ := hS22.fzJoin; clear hS22
  have hrs18F := RsOk.mono hrs18 hla23
  have hle23 := hlb23
  have hR23_3 := RsOk.mono hrs13 hle23
  refine hK _ _ ?_; clear hK K
  refine l_q rfl rfl (q_assignP rfl) ?_
  refine l_nil ?_
  refine hK17 _ _ ?_
  refine wp_seq_k (fun K24 hK24 => ?_)
  refine wp_seq_k (fun K25 hK25 => ?_)
  refine wp_region_lit ?_
  refine l_q rfl rfl (q_assignI rfl) ?_
  refine l_nil ?_
  refine hK25 _ _ ?_
  refine wp_block ?_
  have hS26 := hS23.fr2; clear hS23
  have hS27 := hS26.fr2; clear hS26
  have hS28 := hS27.fr4; clear hS27
  have hS29 := hS28.fr4; clear hS28
  refine c_loop (τ := Nat × Nat × Nat × Nat × (Option Addr) × (Option Addr) × (Option Addr) × (Option Addr) × Nat × Nat × Nat × Nat × (List Rc) × (List Rc) × (List Nat) × (List Nat) × (List Nat) × Nat × Gh × Nat) [(2, 21), (32, 257)] (fun x => (fun (kd : Nat) (kw : Nat) (kr : Nat) (kv : Nat) (da : Option Addr) (ad : Option Addr) (ra : Option Addr) (av : Option Addr) (dc : Nat) (cap : Nat) (rc_ : Nat) (vc : Nat) (rs : List Rc) (rs2 : List Rc) (p : List Nat) (l : List Nat) (q : List Nat) (s : Nat) (g : Gh) (i : Nat) => [(3, .pointer (some ⟨kd, 0, none⟩)), (4, .pointer (some ⟨kr, 0, none⟩)), (5, .pointer (some ⟨kw, 0, none⟩)), (6, .int .i64 (0 : Int)), (7, .pointer (some ⟨kv, 0, none⟩)), (8, .int .i64 ((i : Nat) : Int))]) x.1 x.2.1 x.2.2.1 x.2.2.2.1 x.2.2.2.2.1 x.2.2.2.2.2.1 x.2.2.2.2.2.2.1 x.2.2.2.2.2.2.2.1 x.2.2.2.2.2.2.2.2.1 x.2.2.2.2.2.2.2.2.2.1 x.2.2.2.2.2.2.2.2.2.2.1 x.2.2.2.2.2.2.2.2.2.2.2.1 x.2.2.2.2.2.2.2.2.2.2.2.2.1 x.2.2.2.2.2.2.2.2.2.2.2.2.2.1 x.2.2.2.2.2.2.2.2.2.2.2.2.2.2.1 x.2.2.2.2.2.2.2.2.2.2.2.2.2.2.2.1 x.2.2.2.2.2.2.2.2.2.2.2.2.2.2.2.2.1 x.2.2.2.2.2.2.2.2.2.2.2.2.2.2.2.2.2.1 x.2.2.2.2.2.2.2.2.2.2.2.2.2.2.2.2.2.2.1 x.2.2.2.2.2.2.2.2.2.2.2.2.2.2.2.2.2.2.2) (fun x w' => (fun (kd : Nat) (kw : Nat) (kr : Nat) (kv : Nat) (da : Option Addr) (ad : Option Addr) (ra : Option Addr) (av : Option Addr) (dc : Nat) (cap : Nat) (rc_ : Nat) (vc : Nat) (rs : List Rc) (rs2 : List Rc) (p : List Nat) (l : List Nat) (q : List Nat) (s : Nat) (g : Gh) (i : Nat) => St w (fun _ => False) [wk kw kd ad cap rs, dk kd da dc l p.length s, vk kv kr av vc rs2, rdk kr ra rc_ p l q s, .fz g] w' ∧ i ≤ 40 ∧ PInv g rs rs2 p l q s (400 * i)) x.1 x.2.1 x.2.2.1 x.2.2.2.1 x.2.2.2.2.1 x.2.2.2.2.2.1 x.2.2.2.2.2.2.1 x.2.2.2.2.2.2.2.1 x.2.2.2.2.2.2.2.2.1 x.2.2.2.2.2.2.2.2.2.1 x.2.2.2.2.2.2.2.2.2.2.1 x.2.2.2.2.2.2.2.2.2.2.2.1 x.2.2.2.2.2.2.2.2.2.2.2.2.1 x.2.2.2.2.2.2.2.2.2.2.2.2.2.1 x.2.2.2.2.2.2.2.2.2.2.2.2.2.2.1 x.2.2.2.2.2.2.2.2.2.2.2.2.2.2.2.1 x.2.2.2.2.2.2.2.2.2.2.2.2.2.2.2.2.1 x.2.2.2.2.2.2.2.2.2.2.2.2.2.2.2.2.2.1 x.2.2.2.2.2.2.2.2.2.2.2.2.2.2.2.2.2.2.1 x.2.2.2.2.2.2.2.2.2.2.2.2.2.2.2.2.2.2.2) (fun x => (fun (kd : Nat) (kw : Nat) (kr : Nat) (kv : Nat) (da : Option Addr) (ad : Option Addr) (ra : Option Addr) (av : Option Addr) (dc : Nat) (cap : Nat) (rc_ : Nat) (vc : Nat) (rs : List Rc) (rs2 : List Rc) (p : List Nat) (l : List Nat) (q : List Nat) (s : Nat) (g : Gh) (i : Nat) => 40 - i) x.1 x.2.1 x.2.2.1 x.2.2.2.1 x.2.2.2.2.1 x.2.2.2.2.2.1 x.2.2.2.2.2.2.1 x.2.2.2.2.2.2.2.1 x.2.2.2.2.2.2.2.2.1 x.2.2.2.2.2.2.2.2.2.1 x.2.2.2.2.2.2.2.2.2.2.1 x.2.2.2.2.2.2.2.2.2.2.2.1 x.2.2.2.2.2.2.2.2.2.2.2.2.1 x.2.2.2.2.2.2.2.2.2.2.2.2.2.1 x.2.2.2.2.2.2.2.2.2.2.2.2.2.2.1 x.2.2.2.2.2.2.2.2.2.2.2.2.2.2.2.1 x.2.2.2.2.2.2.2.2.2.2.2.2.2.2.2.2.1 x.2.2.2.2.2.2.2.2.2.2.2.2.2.2.2.2.2.1 x.2.2.2.2.2.2.2.2.2.2.2.2.2.2.2.2.2.2.1 x.2.2.2.2.2.2.2.2.2.2.2.2.2.2.2.2.2.2.2) (⟨k4, k13, b7, k18, da13, ad13, none, ad18, dc13, cp13, 0, cp18, rs13, rs18, ([] : List Nat), (([] : List Nat).take (scan ([] : List Nat) ([] : List Nat).length).2), q18, ((scan ([] : List Nat) ([] : List Nat).length).2), g23, 0⟩) ?_ (by repeat' (first | exact trivial | refine ⟨by first | rfl | exact int_succ _ | assumption, ?_⟩)) (fun x30 j30 w30 hJ30 K30 hK30 => ?_)
  ·
    exact ⟨hS29, Nat.zero_le _, plays0 hR23_3 hrs18F hab13 hab18 hB18 hQ18⟩
  ·
    obtain ⟨kd, kw, kr, kv, da, ad, ra, av, dc, cap, rc_, vc, rs, rs2, p, l, q, s, g, i⟩ := x30
    obtain ⟨hS30, hi, hI⟩ := hJ30
    try dsimp only at hS30 hi hI ⊢
    have hAl : (p ++ l ++ q).length = p.length + l.length + q.length := by rw [List.length_append, List.length_append]
    obtain ⟨_, _, hIab, _, hIs, hIn, hIw⟩ := id hI
    have hIlt := hI.lt
    have hIl := whole_len hIw
    have hIl2 := abs_len hIab
    refine wp_seq_k (fun K31 hK31 => ?_)
    refine wp_seq_k (fun K32 hK32 => ?_)
    refine wp_region_lit ?_
    refine l_q rfl rfl (q_moveI rfl) ?_
    refine l_q rfl rfl (q_moveS rfl) ?_
    refine l_q rfl rfl (q_lenSl (e := 78) rfl (by kernel_rfl)) ?_
    refine l_q rfl rfl (q_lss rfl rfl) ?_
    refine l_q rfl rfl (q_moveB rfl) ?_
    refine g_splitL (t := 36) rfl (fun hg33 => ?_) (fun hg33 => ?_)
    ·
      have hg33b := hg33
      try simp only [decide_eq_true_eq, decide_eq_false_iff_not, Bool.not_eq_true', Bool.not_eq_false', Bool.and_eq_true, Bool.or_eq_true, Int.not_lt, Int.not_le, ne_eq, Decidable.not_not] at hg33
      refine l_on rfl rfl hg33b ?_
      refine l_q rfl rfl (q_moveI rfl) ?_
      refine l_on rfl rfl hg33b ?_
      refine l_q rfl rfl (q_lss rfl rfl) ?_
      refine l_q rfl rfl (q_pickT rfl hg33b rfl) ?_
      refine l_nil ?_
      refine hK32 _ _ ?_
      refine c_cond rfl (fun hc34 => ?_) (fun hc34 => ?_)
      ·
        have hc34b := hc34
        try simp only [decide_eq_true_eq, decide_eq_false_iff_not, Bool.not_eq_true', Bool.not_eq_false', Bool.and_eq_true, Bool.or_eq_true, Int.not_lt, Int.not_le, ne_eq, Decidable.not_not] at hc34
        refine wp_skip ?_
        refine hK31 _ _ ?_
        refine wp_seq_k (fun K35 hK35 => ?_)
        refine wp_block ?_
        refine wp_seq_k (fun K36 hK36 => ?_)
        refine wp_seq_k (fun K37 hK37 => ?_)
        refine wp_region_lit ?_
        refine l_q rfl rfl (q_moveI rfl) ?_
        refine l_q rfl rfl (q_neq rfl rfl) ?_
        refine l_q rfl rfl (q_moveB rfl) ?_
        refine l_on rfl rfl (by decide) ?_
        refine l_q rfl rfl (q_moveP rfl) ?_
        refine l_on rfl rfl (by decide) ?_
        refine l_q rfl rfl (q_peq rfl (by kernel_rfl)) ?_
        refine l_q rfl rfl (q_pickF rfl (by decide) rfl) ?_
        refine l_q rfl rfl (q_moveB rfl) ?_
        refine l_on rfl rfl rfl ?_
        refine l_q rfl rfl (q_moveP rfl) ?_
        refine l_on rfl rfl rfl ?_
        refine l_q rfl rfl (q_peq rfl (by kernel_rfl)) ?_
        refine l_q rfl rfl (q_pickF rfl rfl rfl) ?_
        refine l_nil ?_
        refine hK37 _ _ ?_
        refine c_condF rfl rfl ?_
        refine wp_skip ?_
        refine hK36 _ _ ?_
        refine wp_seq_k (fun K39 hK39 => ?_)
        refine wp_region_lit ?_
        refine l_q rfl rfl (q_moveS rfl) ?_
        refine l_q rfl rfl (q_moveI rfl) ?_
        refine l_q rfl rfl (q_ixG (e := 78) (m := 4) (j := i) rfl rfl (by kernel_rfl) (by kernel_rfl) (by first | rfl | omega) (by omega) hG (by rw [rows_len (c := ac7) (m := 4) (fun _ => rfl)]; first | omega | (simp only [List.length_append, List.length_map, List.length_cons, List.length_nil, List.length_take, List.length_drop, List.length_set] <;> omega))) ?_
        obtain ⟨x40, hx40⟩ : ∃ x, (acts)[i]? = some x := ⟨_, List.getElem?_eq_getElem (by first | omega | (simp only [List.length_append, List.length_map, List.length_cons, List.length_nil, List.length_take, List.length_drop, List.length_set] <;> omega) | (simp <;> omega))⟩
        have ha_x40 := hok x40 (List.mem_of_getElem? hx40)
        obtain ⟨⟨hk0_x40, hk1_x40⟩, ⟨hi0_x40, hi1_x40⟩, ⟨hn0_x40, hn1_x40⟩, _⟩ := id ha_x40
        refine l_q rfl rfl (q_loadGA (m := 4) rfl (by kernel_rfl) (by kernel_rfl) (hG.mono hS30.base) (row_take hx40 (c := ac7) (m := 4) (fun _ => rfl)) rfl (by decide)) ?_
        refine l_e rfl (fun K hK => ?_)
        refine e_alloc (zv := .agg #[.int .i64 0, .int .i64 0, .int .i64 0, .slice none 0 0]) hS30 (by kernel_rfl) (fun b41 w41 (hS41 : St _ _ [.blk b41 (.cells #[.int .i64 (0 : Int), .int .i64 (0 : Int), .int .i64 (0 : Int), .slice none 0 0] 78), wk kw kd ad cap rs, dk kd da dc l p.length s, vk kv kr av vc rs2, rdk kr ra rc_ p l q s, .fz g] _) => ?_)
        clear hS30
        refine hK _ _ ?_; clear hK K
        refine l_e rfl (fun K hK => ?_)
        refine e_storeA hS41 rfl rfl (by kernel_rfl) (by repeat' (first | exact trivial | refine ⟨by first | rfl | assumption | exact one_if (by assumption), ?_⟩)) (i := 0) rfl rfl (fun w42 (hS42 : St _ _ [.blk b41 (.cells #[.int .i64 x40.k, .int .i64 x40.i, .int .i64 x40.n, .slice x40.ad x40.b.length x40.cap] 78), wk kw kd ad cap rs, dk kd da dc l p.length s, vk kv kr av vc rs2, rdk kr ra rc_ p l q s, .fz g] _) => ?_)
        clear hS41
        refine hK _ _ ?_; clear hK K
        refine l_nil ?_
        refine hK39 _ _ ?_
        refine wp_seq_k (fun K43 hK43 => ?_)
        refine wp_seq_k (fun K44 hK44 => ?_)
        refine wp_region_lit ?_
        refine l_q rfl rfl (q_fieldAddr (ft := 23) (o := 3) rfl (by kernel_rfl)) ?_
        refine l_q rfl rfl (q_load1 rfl (by kernel_rfl) (hS42.cell (i := 0) rfl rfl)) ?_
        refine l_q rfl rfl (q_lenSl (e := 5) rfl (by kernel_rfl)) ?_
        refine l_q rfl rfl (q_gtr rfl rfl) ?_
        refine l_nil ?_
        refine hK44 _ _ ?_
        refine c_cond rfl (fun hc45 => ?_) (fun hc45 => ?_)
        ·
          have hc45b := hc45
          try simp only [decide_eq_true_eq, decide_eq_false_iff_not, Bool.not_eq_true', Bool.not_eq_false', Bool.and_eq_true, Bool.or_eq_true, Int.not_lt, Int.not_le, ne_eq, Decidable.not_not] at hc45
          refine wp_exit ?_
          refine hK35 _ _ ?_
          refine wp_region_lit ?_
          refine l_q rfl rfl (q_moveI rfl) ?_
          refine l_q rfl rfl (q_addx rfl rfl (by first | decide | omega) (by first | decide | omega)) ?_
          refine l_q rfl rfl (q_assignI rfl) ?_
          refine l_nil ?_
          have hS46 := hS42.fr5; clear hS42
          have hS47 := hS46.fr5; clear hS46
          have hS48 := hS47.fr5; clear hS47
          have hS49 := hS48.fr5; clear hS48
          have hS50 := hS49.fr5; clear hS49
          have hS51 : St _ _ [wk kw kd ad cap rs, dk kd da dc l p.length s, vk kv kr av vc rs2, rdk kr ra rc_ p l q s, .fz g] _ := hS50.only 5; clear hS50
          refine hK30 _ _ (came (⟨kd, kw, kr, kv, da, ad, ra, av, dc, cap, rc_, vc, rs, rs2, p, l, q, s, g, (i + 1)⟩) (by repeat' (first | exact Agree.refl _ _ | refine Agree.up ?_ rfl | refine Agree.hav2 ?_ rfl | refine Agree.ups2 ?_ rfl)) (by repeat' (first | exact trivial | refine ⟨by first | rfl | exact int_succ _ | assumption, ?_⟩)) ?_)
          exact ⟨⟨hS51, (by show i + 1 ≤ 40; omega), hI.more (by show _ ≤ 400 * (i + 1); omega)⟩, by (show 40 - (i + 1) < 40 - i); omega⟩
        ·
          have hc45b := hc45
          try simp only [decide_eq_true_eq, decide_eq_false_iff_not, Bool.not_eq_true', Bool.not_eq_false', Bool.and_eq_true, Bool.or_eq_true, Int.not_lt, Int.not_le, ne_eq, Decidable.not_not] at hc45
          have hbl := hc45
          refine wp_skip ?_
          refine hK43 _ _ ?_
          refine wp_seq_k (fun K52 hK52 => ?_)
          refine wp_region_lit ?_
          refine l_q rfl rfl (q_assignB rfl) ?_
          refine l_nil ?_
          refine hK52 _ _ ?_
          refine c_cut (τ := Nat × Nat × Nat × Nat × (Option Addr) × (Option Addr) × (Option Addr) × (Option Addr) × Nat × Nat × Nat × Nat × (List Rc) × (List Rc) × (List Nat) × (List Nat) × (List Nat) × Nat × Gh) [(3, 7), (10, 15), (60, 145)] (fun x => (fun (kd : Nat) (kw : Nat) (kr : Nat) (kv : Nat) (da : Option Addr) (ad : Option Addr) (ra : Option Addr) (av : Option Addr) (dc : Nat) (cap : Nat) (rc_ : Nat) (vc : Nat) (rs : List Rc) (rs2 : List Rc) (p : List Nat) (l : List Nat) (q : List Nat) (s : Nat) (g : Gh) => [(3, .pointer (some ⟨kd, 0, none⟩)), (4, .pointer (some ⟨kr, 0, none⟩)), (5, .pointer (some ⟨kw, 0, none⟩)), (6, .int .i64 (0 : Int)), (7, .pointer (some ⟨kv, 0, none⟩)), (10, .bool true)]) x.1 x.2.1 x.2.2.1 x.2.2.2.1 x.2.2.2.2.1 x.2.2.2.2.2.1 x.2.2.2.2.2.2.1 x.2.2.2.2.2.2.2.1 x.2.2.2.2.2.2.2.2.1 x.2.2.2.2.2.2.2.2.2.1 x.2.2.2.2.2.2.2.2.2.2.1 x.2.2.2.2.2.2.2.2.2.2.2.1 x.2.2.2.2.2.2.2.2.2.2.2.2.1 x.2.2.2.2.2.2.2.2.2.2.2.2.2.1 x.2.2.2.2.2.2.2.2.2.2.2.2.2.2.1 x.2.2.2.2.2.2.2.2.2.2.2.2.2.2.2.1 x.2.2.2.2.2.2.2.2.2.2.2.2.2.2.2.2.1 x.2.2.2.2.2.2.2.2.2.2.2.2.2.2.2.2.2.1 x.2.2.2.2.2.2.2.2.2.2.2.2.2.2.2.2.2.2) (fun x w' => (fun (kd : Nat) (kw : Nat) (kr : Nat) (kv : Nat) (da : Option Addr) (ad : Option Addr) (ra : Option Addr) (av : Option Addr) (dc : Nat) (cap : Nat) (rc_ : Nat) (vc : Nat) (rs : List Rc) (rs2 : List Rc) (p : List Nat) (l : List Nat) (q : List Nat) (s : Nat) (g : Gh) => St w (fun _ => False) [wk kw kd ad cap rs, dk kd da dc l p.length s, vk kv kr av vc rs2, rdk kr ra rc_ p l q s, .fz g, .blk b41 (.cells #[.int .i64 x40.k, .int .i64 x40.i, .int .i64 x40.n, .slice x40.ad x40.b.length x40.cap] 78)] w' ∧ PInv g rs rs2 p l q s (400 * i + 400)) x.1 x.2.1 x.2.2.1 x.2.2.2.1 x.2.2.2.2.1 x.2.2.2.2.2.1 x.2.2.2.2.2.2.1 x.2.2.2.2.2.2.2.1 x.2.2.2.2.2.2.2.2.1 x.2.2.2.2.2.2.2.2.2.1 x.2.2.2.2.2.2.2.2.2.2.1 x.2.2.2.2.2.2.2.2.2.2.2.1 x.2.2.2.2.2.2.2.2.2.2.2.2.1 x.2.2.2.2.2.2.2.2.2.2.2.2.2.1 x.2.2.2.2.2.2.2.2.2.2.2.2.2.2.1 x.2.2.2.2.2.2.2.2.2.2.2.2.2.2.2.1 x.2.2.2.2.2.2.2.2.2.2.2.2.2.2.2.2.1 x.2.2.2.2.2.2.2.2.2.2.2.2.2.2.2.2.2.1 x.2.2.2.2.2.2.2.2.2.2.2.2.2.2.2.2.2.2) (fun K54 hK54 => ?_) (fun x54 j54 w54 hJ54 => ?_)
          ·
            refine wp_seq_k (fun K55 hK55 => ?_)
            refine wp_region_lit ?_
            refine l_q rfl rfl (q_fieldAddr (ft := 3) (o := 0) rfl (by kernel_rfl)) ?_
            refine l_q rfl rfl (q_load1 rfl (by kernel_rfl) (hS42.cell (i := 0) rfl rfl)) ?_
            refine l_nil ?_
            refine hK55 _ _ ?_
            refine wp_block ?_
            refine wp_seq_k (fun K56 hK56 => ?_)
            refine wp_region_lit ?_
            refine l_q rfl rfl (q_eql rfl rfl) ?_
            refine l_q rfl rfl (q_assignB rfl) ?_
            refine l_nil ?_
            refine hK56 _ _ ?_
            refine c_cond rfl (fun hc57 => ?_) (fun hc57 => ?_)
            ·
              have hc57b := hc57
              try simp only [decide_eq_true_eq, decide_eq_false_iff_not, Bool.not_eq_true', Bool.not_eq_false', Bool.and_eq_true, Bool.or_eq_true, Int.not_lt, Int.not_le, ne_eq, Decidable.not_not] at hc57
              refine wp_seq_k (fun K58 hK58 => ?_)
              refine wp_region_lit ?_
              refine l_q rfl rfl (q_moveP rfl) ?_
              refine l_q rfl rfl (q_fieldAddr (ft := 23) (o := 3) rfl (by kernel_rfl)) ?_
              refine l_q rfl rfl (q_load1 rfl (by kernel_rfl) (hS42.cell (i := 0) rfl rfl)) ?_
              refine l_e rfl (fun K hK => ?_)
              have hS60 := hS42.fr5; clear hS42
              have hS61 := hS60.fr3; clear hS60
              have hS62 := hS61.fr3; clear hS61
              refine e_call (by kernel_rfl) (wAppend_ok _ _ _ _ _ _ _ _ _ _ _ (by first | omega | (simp only [List.length_append, List.length_map, List.length_cons, List.length_nil, List.length_take, List.length_drop, List.length_set] <;> omega)) (bytes_mid hI.2.2.2.1) (by first | omega | (simp only [List.length_append, List.length_map, List.length_cons, List.length_nil, List.length_take, List.length_drop, List.length_set] <;> omega)) (by first | omega | (simp only [List.length_append, List.length_map, List.length_cons, List.length_nil, List.length_take, List.length_drop, List.length_set] <;> omega)) hI.1 _ x40.b (hok x40 (List.mem_of_getElem? hx40)).2.2.2.2.1 _ _ (by first | omega | (simp only [List.length_append, List.length_map, List.length_cons, List.length_nil, List.length_take, List.length_drop, List.length_set] <;> omega)) (hok x40 (List.mem_of_getElem? hx40)).2.2.2.1 _ (St.rogB (Γ1 := [_, _, _]) hS62) (St.begin (Γ := [_, _, _]) hS62)) rfl (after_M (Γ1 := [_, _, _]) hS62 (fun v59 G59 w59 hv59 hS59 => ?_))
              clear hS62
              obtain ⟨ad59, cp59, rs59, da59, dc59, g59, rfl, rfl, hle59, hrs59, hab59⟩ := hv59
              have hS63 : St _ _ [wk kw kd ad59 cp59 rs59, dk kd da59 dc59 (waL l x40.b) p.length s, .fz g59, .blk b41 (.cells #[.int .i64 x40.k, .int .i64 x40.i, .int .i64 x40.n, .slice x40.ad x40.b.length x40.cap] 78), vk kv kr av vc rs2, rdk kr ra rc_ p l q s] _ := hS59; clear hS59
              have hL59 := waL_len l x40.b
              have hR59_4 := RsOk.mono hI.2.1 hle59
              refine hK _ _ ?_; clear hK K
              refine l_q rfl rfl (q_move rfl) ?_
              refine l_q rfl rfl (q_extract rfl rfl) ?_
              refine l_q rfl rfl (q_extract rfl rfl) ?_
              refine l_q rfl rfl (q_assignI rfl) ?_
              refine l_q rfl rfl (q_assignI rfl) ?_
              refine l_nil ?_
              refine hK58 _ _ ?_
              refine wp_seq_k (fun K64 hK64 => ?_)
              refine wp_region_lit ?_
              refine l_q rfl rfl (q_moveP rfl) ?_
              refine l_q rfl rfl (q_fieldAddr (ft := 23) (o := 3) rfl (by kernel_rfl)) ?_
              refine l_q rfl rfl (q_load1 rfl (by kernel_rfl) (hS63.cell (i := 3) rfl rfl)) ?_
              refine l_e rfl (fun K hK => ?_)
              have hRl65 : (p ++ l ++ q).length = p.length + l.length + q.length := by rw [List.length_append, List.length_append]
              have hS66 := hS63.fr2; clear hS63
              have hS67 := hS66.fr5; clear hS66
              have hS68 := hS67.fr5; clear hS67
              refine e_call (by kernel_rfl) (vAppend_ok _ _ _ _ _ _ _ _ _ _ _ _ (by first | omega | (simp only [List.length_append, List.length_map, List.length_cons, List.length_nil, List.length_take, List.length_drop, List.length_set] <;> omega)) hI.2.2.2.1 (by first | omega | (simp only [List.length_append, List.length_map, List.length_cons, List.length_nil, List.length_take, List.length_drop, List.length_set] <;> omega)) (by first | omega | (simp only [List.length_append, List.length_map, List.length_cons, List.length_nil, List.length_take, List.length_drop, List.length_set] <;> omega)) hR59_4 _ x40.b (hok x40 (List.mem_of_getElem? hx40)).2.2.2.2.1 _ _ (by first | omega | (simp only [List.length_append, List.length_map, List.length_cons, List.length_nil, List.length_take, List.length_drop, List.length_set] <;> omega)) (hok x40 (List.mem_of_getElem? hx40)).2.2.2.1 _ (St.rogB (Γ1 := [_, _, _]) hS68) (St.begin (Γ := [_, _, _]) hS68)) rfl (after_M (Γ1 := [_, _, _]) hS68 (fun v65 G65 w65 hv65 hS65 => ?_))
              clear hS68
              obtain ⟨ad65, cp65, rs65, da65, dc65, q65, g65, rfl, rfl, hle65, hrs65, hab65, hB65, hQ65⟩ := hv65
              have hS69 : St _ _ [vk kv kr ad65 cp65 rs65, rdk kr da65 dc65 p (waL l x40.b) q65 s, .fz g65, wk kw kd ad59 cp59 rs59, dk kd da59 dc59 (waL l x40.b) p.length s, .blk b41 (.cells #[.int .i64 x40.k, .int .i64 x40.i, .int .i64 x40.n, .slice x40.ad x40.b.length x40.cap] 78)] _ := hS65; clear hS65
              have hL65 := waL_len l x40.b
              have hR65_3 := RsOk.mono hrs59 hle65
              refine hK _ _ ?_; clear hK K
              refine l_q rfl rfl (q_move rfl) ?_
              refine l_q rfl rfl (q_extract rfl rfl) ?_
              refine l_q rfl rfl (q_extract rfl rfl) ?_
              refine l_q rfl rfl (q_assignI rfl) ?_
              refine l_q rfl rfl (q_assignI rfl) ?_
              refine l_nil ?_
              refine hK64 _ _ ?_
              refine wp_region_lit ?_
              refine l_q rfl rfl (q_moveI rfl) ?_
              refine l_q rfl rfl (q_moveI rfl) ?_
              refine l_q rfl rfl (q_eql rfl rfl) ?_
              refine l_q rfl rfl (q_moveB rfl) ?_
              refine l_on rfl rfl (decide_eq_true rfl) ?_
              refine l_q rfl rfl (q_moveI rfl) ?_
              refine l_on rfl rfl (decide_eq_true rfl) ?_
              refine l_q rfl rfl (q_moveI rfl) ?_
              refine l_on rfl rfl (decide_eq_true rfl) ?_
              refine l_q rfl rfl (q_eql rfl rfl) ?_
              refine l_q rfl rfl (q_pickT rfl (decide_eq_true rfl) rfl) ?_
              refine l_q rfl rfl (q_assignB rfl) ?_
              refine l_nil ?_
              have hS71 := hS69.fr5; clear hS69
              have hS72 := hS71.fr3; clear hS71
              have hS73 := hS72.fr3; clear hS72
              have hS74 := hS73.fr3; clear hS73
              have hS75 := hS74.fr5; clear hS74
              have hS76 := hS75.fr5; clear hS75
              refine hK54 _ _ (came (⟨kd, kw, kr, kv, da59, ad59, da65, ad65, dc59, cp59, dc65, cp65, rs59, rs65, p, (waL l x40.b), q65, s, g65⟩) (by repeat' (first | exact Agree.refl _ _ | refine Agree.up ?_ rfl | refine Agree.hav2 ?_ rfl | refine Agree.ups2 ?_ rfl)) (by repeat' (first | exact trivial | refine ⟨by first | rfl | exact int_succ _ | exact congrArg Value.bool (decide_eq_true rfl) | exact (congrArg Value.bool (decide_eq_true rfl)).symm | assumption, ?_⟩)) ?_)
              exact ⟨hS76, hI.appended hR65_3 hrs65 hab59 hab65 hB65 hQ65 (by omega)⟩
            ·
              have hc57b := hc57
              try simp only [decide_eq_true_eq, decide_eq_false_iff_not, Bool.not_eq_true', Bool.not_eq_false', Bool.and_eq_true, Bool.or_eq_true, Int.not_lt, Int.not_le, ne_eq, Decidable.not_not] at hc57
              refine wp_seq_k (fun K77 hK77 => ?_)
              refine wp_region_lit ?_
              refine l_q rfl rfl (q_eql rfl rfl) ?_
              refine l_q rfl rfl (q_assignB rfl) ?_
              refine l_nil ?_
              refine hK77 _ _ ?_
              refine c_cond rfl (fun hc78 => ?_) (fun hc78 => ?_)
              ·
                have hc78b := hc78
                try simp only [decide_eq_true_eq, decide_eq_false_iff_not, Bool.not_eq_true', Bool.not_eq_false', Bool.and_eq_true, Bool.or_eq_true, Int.not_lt, Int.not_le, ne_eq, Decidable.not_not] at hc78
                refine wp_region_lit ?_
                refine l_q rfl rfl (q_moveP rfl) ?_
                refine l_e rfl (fun K hK => ?_)
                have hS80 := hS42.fr2; clear hS42
                have hS81 := hS80.fr2; clear hS80
                refine e_call (by kernel_rfl) (wSync_ok _ _ _ _ _ _ _ _ _ _ _ (St.begin (Γ := [_, _]) hS81)) rfl (after_M (Γ1 := [_, _]) hS81 (fun v79 G79 w79 hv79 hS79 => ?_))
                clear hS81
                obtain ⟨rfl, rfl⟩ := hv79
                have hS82 : St _ _ [wk kw kd ad cap rs, dk kd da dc l p.length l.length, .blk b41 (.cells #[.int .i64 x40.k, .int .i64 x40.i, .int .i64 x40.n, .slice x40.ad x40.b.length x40.cap] 78), vk kv kr av vc rs2, rdk kr ra rc_ p l q s, .fz g] _ := hS79; clear hS79
                refine hK _ _ ?_; clear hK K
                refine l_q rfl rfl (q_moveP rfl) ?_
                refine l_e rfl (fun K hK => ?_)
                have hS84 := hS82.fr4; clear hS82
                have hRl83 : (p ++ l ++ q).length = p.length + l.length + q.length := by rw [List.length_append, List.length_append]
                refine e_call (by kernel_rfl) (rSync_ok _ _ _ _ _ _ _ hI.2.2.2.1 (by first | omega | (simp only [List.length_append, List.length_map, List.length_cons, List.length_nil, List.length_take, List.length_drop, List.length_set] <;> omega)) (by first | omega | (simp only [List.length_append, List.length_map, List.length_cons, List.length_nil, List.length_take, List.length_drop, List.length_set] <;> omega)) _ (St.begin (Γ := [_]) hS84)) rfl (after_M (Γ1 := [_]) hS84 (fun v83 G83 w83 hv83 hS83 => ?_))
                clear hS84
                obtain ⟨rfl, rfl⟩ := hv83
                have hS85 : St _ _ [rdk kr ra rc_ p l q l.length, wk kw kd ad cap rs, dk kd da dc l p.length l.length, .blk b41 (.cells #[.int .i64 x40.k, .int .i64 x40.i, .int .i64 x40.n, .slice x40.ad x40.b.length x40.cap] 78), vk kv kr av vc rs2, .fz g] _ := hS83; clear hS83
                refine hK _ _ ?_; clear hK K
                refine l_q rfl rfl (q_eql rfl rfl) ?_
                refine l_q rfl rfl (q_assignB rfl) ?_
                refine l_nil ?_
                have hS86 := hS85.fr3; clear hS85
                have hS87 := hS86.fr5; clear hS86
                have hS88 := hS87.fr2; clear hS87
                have hS89 := hS88.fr5; clear hS88
                have hS90 := hS89.fr5; clear hS89
                have hS91 := hS90.fr5; clear hS90
                refine hK54 _ _ (came (⟨kd, kw, kr, kv, da, ad, ra, av, dc, cap, rc_, vc, rs, rs2, p, l, q, l.length, g⟩) (by repeat' (first | exact Agree.refl _ _ | refine Agree.up ?_ rfl | refine Agree.hav2 ?_ rfl | refine Agree.ups2 ?_ rfl)) (by repeat' (first | exact trivial | refine ⟨by first | rfl | exact int_succ _ | exact congrArg Value.bool (decide_eq_true rfl) | exact (congrArg Value.bool (decide_eq_true rfl)).symm | assumption, ?_⟩)) ?_)
                exact ⟨hS91, hI.synced.more (by omega)⟩
              ·
                have hc78b := hc78
                try simp only [decide_eq_true_eq, decide_eq_false_iff_not, Bool.not_eq_true', Bool.not_eq_false', Bool.and_eq_true, Bool.or_eq_true, Int.not_lt, Int.not_le, ne_eq, Decidable.not_not] at hc78
                refine wp_seq_k (fun K92 hK92 => ?_)
                refine wp_seq_k (fun K93 hK93 => ?_)
                refine wp_region_lit ?_
                refine l_q rfl rfl (q_eql rfl rfl) ?_
                refine l_q rfl rfl (q_assignB rfl) ?_
                refine l_nil ?_
                refine hK93 _ _ ?_
                refine c_cond rfl (fun hc94 => ?_) (fun hc94 => ?_)
                ·
                  have hc94b := hc94
                  try simp only [decide_eq_true_eq, decide_eq_false_iff_not, Bool.not_eq_true', Bool.not_eq_false', Bool.and_eq_true, Bool.or_eq_true, Int.not_lt, Int.not_le, ne_eq, Decidable.not_not] at hc94
                  refine wp_skip ?_
                  refine hK92 _ _ ?_
                  refine c_condT rfl hc94b ?_
                  refine wp_seq_k (fun K96 hK96 => ?_)
                  refine wp_region_lit ?_
                  refine l_q rfl rfl (q_fieldAddr (ft := 3) (o := 2) rfl (by kernel_rfl)) ?_
                  refine l_q rfl rfl (q_load1 rfl (by kernel_rfl) (hS42.cell (i := 0) rfl rfl)) ?_
                  refine l_q rfl rfl (q_assignI rfl) ?_
                  refine l_nil ?_
                  refine hK96 _ _ ?_
                  refine wp_seq_k (fun K97 hK97 => ?_)
                  refine wp_seq_k (fun K98 hK98 => ?_)
                  refine wp_region_lit ?_
                  refine l_q rfl rfl (q_fieldAddr (ft := 3) (o := 0) rfl (by kernel_rfl)) ?_
                  refine l_q rfl rfl (q_load1 rfl (by kernel_rfl) (hS42.cell (i := 0) rfl rfl)) ?_
                  refine l_q rfl rfl (q_eql rfl rfl) ?_
                  refine l_nil ?_
                  refine hK98 _ _ ?_
                  refine c_cond rfl (fun hc99 => ?_) (fun hc99 => ?_)
                  ·
                    have hc99b := hc99
                    try simp only [decide_eq_true_eq, decide_eq_false_iff_not, Bool.not_eq_true', Bool.not_eq_false', Bool.and_eq_true, Bool.or_eq_true, Int.not_lt, Int.not_le, ne_eq, Decidable.not_not] at hc99
                    refine r_any (by kernel_rfl) hS42 (fun w100 hS100 => ?_)
                    clear hS42
                    refine o_pure (i := 0) (fun _ _ => trivial) rfl rfl (by kernel_rfl) (goes0 rfl) (QOk.then (QOk.inBlock (QOk.then (QOk.inBlock (QOk.then (QOk.then (QOk.inBlock (QOk.then QOk.body)))))))) (fun w => q_moveP rfl) ?_
                    refine o_pure (i := 2) (fun _ _ => trivial) rfl rfl (by kernel_rfl) (goes0 rfl) (QOk.then (QOk.inBlock (QOk.then (QOk.inBlock (QOk.then (QOk.then (QOk.inBlock (QOk.then QOk.body)))))))) (fun w => q_moveP rfl) ?_
                    refine o_pure (i := 3) (fun _ _ => trivial) rfl rfl (by kernel_rfl) (goes0 rfl) (QOk.then (QOk.inBlock (QOk.then (QOk.inBlock (QOk.then (QOk.then (QOk.inBlock (QOk.then QOk.body)))))))) (fun w => q_nilCheck rfl) ?_
                    refine o_pure (i := 4) (fun _ _ => trivial) rfl rfl (by kernel_rfl) (goes0 rfl) (QOk.then (QOk.inBlock (QOk.then (QOk.inBlock (QOk.then (QOk.then (QOk.inBlock (QOk.then QOk.body)))))))) (fun w => q_fieldAddr (ft := 3) (o := 2) rfl (by kernel_rfl)) ?_
                    have hS101 := hS100.fr4; clear hS100
                    have hS102 := rd_open hS101; clear hS101
                    refine o_held (i := 5) [8, 9] (fun _ _ => trivial) rfl rfl (by kernel_rfl) (goes0 rfl) (QOk.then (QOk.inBlock (QOk.then (QOk.inBlock (QOk.then (QOk.then (QOk.inBlock (QOk.then QOk.body)))))))) (q_load1 rfl (by kernel_rfl) (hS102.cell (i := 0) rfl rfl)) ?_
                    refine o_pure (i := 6) (fun j w => ⟨(fun _ _ => trivial) j w, fun _ h => h⟩) rfl rfl (by kernel_rfl) (goes0 rfl) (QOk.then (QOk.inBlock (QOk.then (QOk.inBlock (QOk.then (QOk.then (QOk.inBlock (QOk.then QOk.body)))))))) (fun w => q_fieldAddr (ft := 3) (o := 1) rfl (by kernel_rfl)) ?_
                    refine o_held (i := 7) [8, 9] (fun j w => ⟨(fun _ _ => trivial) j w, fun _ h => h⟩) rfl rfl (by kernel_rfl) (goes0 rfl) (QOk.then (QOk.inBlock (QOk.then (QOk.inBlock (QOk.then (QOk.then (QOk.inBlock (QOk.then QOk.body)))))))) (q_load1 rfl (by kernel_rfl) (hS102.cell (i := 2) rfl rfl)) ?_
                    refine o_eff (i := 1) (by kernel_rfl) rfl (goes0 rfl) (fun K hK => ?_)
                    have hS104 := hS102.fr3; clear hS102
                    refine e_call (by kernel_rfl) (wNumbers_ok _ _ _ _ _ (by first | omega | (simp only [List.length_append, List.length_map, List.length_cons, List.length_nil, List.length_take, List.length_drop, List.length_set] <;> omega)) _ (St.begin (Γ := [_]) hS104)) rfl (after_M (Γ1 := [_]) hS104 (fun v103 G103 w103 hv103 hS103 => ?_))
                    clear hS104
                    obtain ⟨ad103, cp103, rfl, rfl⟩ := hv103
                    have hS105 : St _ _ [.ow 3 1 ad103 rs.length cp103 (iv (nums rs)), wk kw kd ad cap rs, .blk kr (.cells #[.slice ra ((p ++ l ++ q).length) rc_, .int .i64 ((p.length : Nat) : Int), .int .i64 (((p.length + l.length) : Nat) : Int), .int .i64 (((p.length + s) : Nat) : Int)] 85), .ow 5 1 ra ((p ++ l ++ q).length) rc_ (bv (p ++ l ++ q)), .blk b41 (.cells #[.int .i64 x40.k, .int .i64 x40.i, .int .i64 x40.n, .slice x40.ad x40.b.length x40.cap] 78), dk kd da dc l p.length s, vk kv kr av vc rs2, .fz g] _ := hS103; clear hS103
                    refine hK _ _ ⟨⟨trivial, fun _ _ => by first | exact q_load1 rfl (by kernel_rfl) (hS105.cell (i := 2) rfl rfl)⟩, fun _ _ => by first | exact q_load1 rfl (by kernel_rfl) (hS105.cell (i := 4) rfl rfl)⟩ ?_; clear hK K
                    refine o_eff (i := 8) (by kernel_rfl) rfl (goes0 rfl) (fun K hK => ?_)
                    refine e_call (by kernel_rfl) (number_ok (nums rs) rs.length (((p.length + l.length) : Nat) : Int) x40.i (by first | exact nums_len _ | exact (by first | omega | (simp only [List.length_append, List.length_map, List.length_cons, List.length_nil, List.length_take, List.length_drop, List.length_set] <;> omega))) (by first | omega | (simp only [List.length_append, List.length_map, List.length_cons, List.length_nil, List.length_take, List.length_drop, List.length_set] <;> omega)) (by first | omega | (simp only [List.length_append, List.length_map, List.length_cons, List.length_nil, List.length_take, List.length_drop, List.length_set] <;> omega)) _ _ _ (hS105.owG (i := 0) rfl)) rfl (after_R hS105 (fun v106 w106 hv106 hS106 => ?_))
                    clear hS105
                    obtain rfl := hv106
                    refine hK _ _ ⟨⟨trivial, fun h => absurd h (by decide)⟩, fun h => absurd h (by decide)⟩ ?_; clear hK K
                    have hnb := numN_bd hI.1 (e := p.length + l.length) (by omega) x40.i
                    refine o_pure (i := 9) (fun j w => ⟨(fun j w => ⟨(fun _ _ => trivial) j w, fun _ h => h⟩) j w, fun _ h => h⟩) rfl rfl (by kernel_rfl) (goes0 rfl) (QOk.then (QOk.inBlock (QOk.then (QOk.inBlock (QOk.then (QOk.then (QOk.inBlock (QOk.then QOk.body)))))))) (fun w => q_assignI rfl) ?_
                    refine o_done (by kernel_rfl) ?_
                    refine hK97 _ _ ?_
                    refine wp_region_lit ?_
                    refine l_q rfl rfl (q_moveP rfl) ?_
                    refine l_q rfl rfl (q_moveI rfl) ?_
                    refine l_e rfl (fun K hK => ?_)
                    have hF107 := tr_fit rs l p.length s (numN (nums rs) (((p.length + l.length) : Nat) : Int) x40.i) (by first | omega | (simp only [List.length_append, List.length_map, List.length_cons, List.length_nil, List.length_take, List.length_drop, List.length_set] <;> omega))
                    have hRt107 := trR_ok hI.1 l p.length s (numN (nums rs) (((p.length + l.length) : Nat) : Int) x40.i) 
                    have hS108 := hS106.fr5; clear hS106
                    have hS109 := hS108.fr2; clear hS108
                    refine e_call (by kernel_rfl) (wTrim_ok _ _ _ _ _ _ _ _ _ _ (by first | omega | (simp only [List.length_append, List.length_map, List.length_cons, List.length_nil, List.length_take, List.length_drop, List.length_set] <;> omega)) (bytes_mid hI.2.2.2.1) (by first | omega | (simp only [List.length_append, List.length_map, List.length_cons, List.length_nil, List.length_take, List.length_drop, List.length_set] <;> omega)) (by first | omega | (simp only [List.length_append, List.length_map, List.length_cons, List.length_nil, List.length_take, List.length_drop, List.length_set] <;> omega)) _ (by first | omega | (simp only [List.length_append, List.length_map, List.length_cons, List.length_nil, List.length_take, List.length_drop, List.length_set] <;> omega)) (by first | omega | (simp only [List.length_append, List.length_map, List.length_cons, List.length_nil, List.length_take, List.length_drop, List.length_set] <;> omega)) _ (St.begin (Γ := [_, _]) hS109)) rfl (after_M (Γ1 := [_, _]) hS109 (fun v107 G107 w107 hv107 hS107 => ?_))
                    clear hS109
                    obtain ⟨ad107, cp107, da107, dc107, rfl, rfl⟩ := hv107
                    have hS110 : St _ _ [wk kw kd ad107 cp107 (trR rs l p.length s (numN (nums rs) (((p.length + l.length) : Nat) : Int) x40.i)), dk kd da107 dc107 (trL rs l p.length s (numN (nums rs) (((p.length + l.length) : Nat) : Int) x40.i)) (trB rs l p.length s (numN (nums rs) (((p.length + l.length) : Nat) : Int) x40.i)) (trS rs l p.length s (numN (nums rs) (((p.length + l.length) : Nat) : Int) x40.i)), .ow 3 1 ad103 rs.length cp103 (iv (nums rs)), .blk kr (.cells #[.slice ra ((p ++ l ++ q).length) rc_, .int .i64 ((p.length : Nat) : Int), .int .i64 (((p.length + l.length) : Nat) : Int), .int .i64 (((p.length + s) : Nat) : Int)] 85), .ow 5 1 ra ((p ++ l ++ q).length) rc_ (bv (p ++ l ++ q)), .blk b41 (.cells #[.int .i64 x40.k, .int .i64 x40.i, .int .i64 x40.n, .slice x40.ad x40.b.length x40.cap] 78), vk kv kr av vc rs2, .fz g] _ := hS107; clear hS107
                    refine hK _ _ ?_; clear hK K
                    refine l_q rfl rfl (q_moveP rfl) ?_
                    refine l_q rfl rfl (q_moveI rfl) ?_
                    refine l_e rfl (fun K hK => ?_)
                    have hS112 := hS110.fr4; clear hS110
                    have hS113 := hS112.fr4; clear hS112
                    have hS114 := rd_close hS113; clear hS113
                    have hRl111 : (p ++ l ++ q).length = p.length + l.length + q.length := by rw [List.length_append, List.length_append]
                    have hS115 := hS114.fr5; clear hS114
                    refine e_call (by kernel_rfl) (vTrimF _ _ _ _ _ rs _ _ _ _ _ _ (by first | omega | (simp only [List.length_append, List.length_map, List.length_cons, List.length_nil, List.length_take, List.length_drop, List.length_set] <;> omega)) hI.2.2.2.1 (by first | omega | (simp only [List.length_append, List.length_map, List.length_cons, List.length_nil, List.length_take, List.length_drop, List.length_set] <;> omega)) (by first | omega | (simp only [List.length_append, List.length_map, List.length_cons, List.length_nil, List.length_take, List.length_drop, List.length_set] <;> omega)) hI.2.1 hIab hIlt _ (by first | omega | (simp only [List.length_append, List.length_map, List.length_cons, List.length_nil, List.length_take, List.length_drop, List.length_set] <;> omega)) (by first | omega | (simp only [List.length_append, List.length_map, List.length_cons, List.length_nil, List.length_take, List.length_drop, List.length_set] <;> omega)) _ (St.begin (Γ := [_, _]) hS115)) rfl (after_M (Γ1 := [_, _]) hS115 (fun v111 G111 w111 hv111 hS111 => ?_))
                    clear hS115
                    obtain ⟨ad111, cp111, rs111, p111, rfl, rfl, hp111, hab111, hB111, hQ111, hrs111⟩ := hv111
                    have hS116 : St _ _ [vk kv kr ad111 cp111 rs111, rdk kr ra rc_ p111 (trL rs l p.length s (numN (nums rs) (((p.length + l.length) : Nat) : Int) x40.i)) q (trS rs l p.length s (numN (nums rs) (((p.length + l.length) : Nat) : Int) x40.i)), wk kw kd ad107 cp107 (trR rs l p.length s (numN (nums rs) (((p.length + l.length) : Nat) : Int) x40.i)), dk kd da107 dc107 (trL rs l p.length s (numN (nums rs) (((p.length + l.length) : Nat) : Int) x40.i)) (trB rs l p.length s (numN (nums rs) (((p.length + l.length) : Nat) : Int) x40.i)) (trS rs l p.length s (numN (nums rs) (((p.length + l.length) : Nat) : Int) x40.i)), .ow 3 1 ad103 rs.length cp103 (iv (nums rs)), .blk b41 (.cells #[.int .i64 x40.k, .int .i64 x40.i, .int .i64 x40.n, .slice x40.ad x40.b.length x40.cap] 78), .fz g] _ := hS111; clear hS111
                    refine hK _ _ ?_; clear hK K
                    refine l_q rfl rfl (q_eql rfl rfl) ?_
                    refine l_q rfl rfl (q_assignB rfl) ?_
                    refine l_nil ?_
                    have hS117 : St _ _ [vk kv kr ad111 cp111 rs111, rdk kr ra rc_ p111 (trL rs l p.length s (numN (nums rs) (((p.length + l.length) : Nat) : Int) x40.i)) q (trS rs l p.length s (numN (nums rs) (((p.length + l.length) : Nat) : Int) x40.i)), wk kw kd ad107 cp107 (trR rs l p.length s (numN (nums rs) (((p.length + l.length) : Nat) : Int) x40.i)), dk kd da107 dc107 (trL rs l p.length s (numN (nums rs) (((p.length + l.length) : Nat) : Int) x40.i)) p111.length (trS rs l p.length s (numN (nums rs) (((p.length + l.length) : Nat) : Int) x40.i)), .ow 3 1 ad103 rs.length cp103 (iv (nums rs)), .blk b41 (.cells #[.int .i64 x40.k, .int .i64 x40.i, .int .i64 x40.n, .slice x40.ad x40.b.length x40.cap] 78), .fz g] _ := hS116.cast (by rw [show p111.length = (trB rs l p.length s (numN (nums rs) (((p.length + l.length) : Nat) : Int) x40.i)) from hp111]); clear hS116
                    have hS118 := hS117.fr5; clear hS117
                    have hS119 := hS118.fr6; clear hS118
                    have hS120 := hS119.fr3; clear hS119
                    have hS121 := hS120.fr3; clear hS120
                    have hS122 := hS121.fr5; clear hS121
                    have hS123 := hS122.fr5; clear hS122
                    have hS124 : St _ _ [wk kw kd ad107 cp107 (trR rs l p.length s (numN (nums rs) (((p.length + l.length) : Nat) : Int) x40.i)), dk kd da107 dc107 (trL rs l p.length s (numN (nums rs) (((p.length + l.length) : Nat) : Int) x40.i)) p111.length (trS rs l p.length s (numN (nums rs) (((p.length + l.length) : Nat) : Int) x40.i)), vk kv kr ad111 cp111 rs111, rdk kr ra rc_ p111 (trL rs l p.length s (numN (nums rs) (((p.length + l.length) : Nat) : Int) x40.i)) q (trS rs l p.length s (numN (nums rs) (((p.length + l.length) : Nat) : Int) x40.i)), .fz g, .blk b41 (.cells #[.int .i64 x40.k, .int .i64 x40.i, .int .i64 x40.n, .slice x40.ad x40.b.length x40.cap] 78)] _ := hS123.only 6; clear hS123
                    refine hK54 _ _ (came (⟨kd, kw, kr, kv, da107, ad107, ra, ad111, dc107, cp107, rc_, cp111, (trR rs l p.length s (numN (nums rs) (((p.length + l.length) : Nat) : Int) x40.i)), rs111, p111, (trL rs l p.length s (numN (nums rs) (((p.length + l.length) : Nat) : Int) x40.i)), q, (trS rs l p.length s (numN (nums rs) (((p.length + l.length) : Nat) : Int) x40.i)), g⟩) (by repeat' (first | exact Agree.refl _ _ | refine Agree.up ?_ rfl | refine Agree.hav2 ?_ rfl | refine Agree.ups2 ?_ rfl)) (by repeat' (first | exact trivial | refine ⟨by first | rfl | exact int_succ _ | exact congrArg Value.bool (decide_eq_true rfl) | exact (congrArg Value.bool (decide_eq_true rfl)).symm | assumption, ?_⟩)) ?_)
                    exact ⟨hS124, (hI.trimmed hrs111 hab111 hp111 hB111 hQ111).more (by omega)⟩
                  ·
                    have hc99b := hc99
                    try simp only [decide_eq_true_eq, decide_eq_false_iff_not, Bool.not_eq_true', Bool.not_eq_false', Bool.and_eq_true, Bool.or_eq_true, Int.not_lt, Int.not_le, ne_eq, Decidable.not_not] at hc99
                    omega
                ·
                  have hc94b := hc94
                  try simp only [decide_eq_true_eq, decide_eq_false_iff_not, Bool.not_eq_true', Bool.not_eq_false', Bool.and_eq_true, Bool.or_eq_true, Int.not_lt, Int.not_le, ne_eq, Decidable.not_not] at hc94
                  refine wp_region_lit ?_
                  refine l_q rfl rfl (q_eql rfl rfl) ?_
                  refine l_q rfl rfl (q_assignB rfl) ?_
                  refine l_nil ?_
                  refine hK92 _ _ ?_
                  refine c_cond rfl (fun hc125 => ?_) (fun hc125 => ?_)
                  ·
                    have hc125b := hc125
                    try simp only [decide_eq_true_eq, decide_eq_false_iff_not, Bool.not_eq_true', Bool.not_eq_false', Bool.and_eq_true, Bool.or_eq_true, Int.not_lt, Int.not_le, ne_eq, Decidable.not_not] at hc125
                    refine wp_seq_k (fun K126 hK126 => ?_)
                    refine wp_region_lit ?_
                    refine l_q rfl rfl (q_fieldAddr (ft := 3) (o := 2) rfl (by kernel_rfl)) ?_
                    refine l_q rfl rfl (q_load1 rfl (by kernel_rfl) (hS42.cell (i := 0) rfl rfl)) ?_
                    refine l_q rfl rfl (q_assignI rfl) ?_
                    refine l_nil ?_
                    refine hK126 _ _ ?_
                    refine wp_seq_k (fun K127 hK127 => ?_)
                    refine wp_seq_k (fun K128 hK128 => ?_)
                    refine wp_region_lit ?_
                    refine l_q rfl rfl (q_fieldAddr (ft := 3) (o := 0) rfl (by kernel_rfl)) ?_
                    refine l_q rfl rfl (q_load1 rfl (by kernel_rfl) (hS42.cell (i := 0) rfl rfl)) ?_
                    refine l_q rfl rfl (q_eql rfl rfl) ?_
                    refine l_nil ?_
                    refine hK128 _ _ ?_
                    refine c_cond rfl (fun hc129 => ?_) (fun hc129 => ?_)
                    ·
                      have hc129b := hc129
                      try simp only [decide_eq_true_eq, decide_eq_false_iff_not, Bool.not_eq_true', Bool.not_eq_false', Bool.and_eq_true, Bool.or_eq_true, Int.not_lt, Int.not_le, ne_eq, Decidable.not_not] at hc129
                      omega
                    ·
                      have hc129b := hc129
                      try simp only [decide_eq_true_eq, decide_eq_false_iff_not, Bool.not_eq_true', Bool.not_eq_false', Bool.and_eq_true, Bool.or_eq_true, Int.not_lt, Int.not_le, ne_eq, Decidable.not_not] at hc129
                      refine wp_skip ?_
                      refine hK127 _ _ ?_
                      refine wp_region_lit ?_
                      refine l_q rfl rfl (q_moveP rfl) ?_
                      refine l_q rfl rfl (q_moveI rfl) ?_
                      refine l_e rfl (fun K hK => ?_)
                      have hF130 := tr_fit rs l p.length s x40.n (by first | omega | (simp only [List.length_append, List.length_map, List.length_cons, List.length_nil, List.length_take, List.length_drop, List.length_set] <;> omega))
                      have hRt130 := trR_ok hI.1 l p.length s x40.n 
                      have hS131 := hS42.fr2; clear hS42
                      have hS132 := hS131.fr2; clear hS131
                      refine e_call (by kernel_rfl) (wTrim_ok _ _ _ _ _ _ _ _ _ _ (by first | omega | (simp only [List.length_append, List.length_map, List.length_cons, List.length_nil, List.length_take, List.length_drop, List.length_set] <;> omega)) (bytes_mid hI.2.2.2.1) (by first | omega | (simp only [List.length_append, List.length_map, List.length_cons, List.length_nil, List.length_take, List.length_drop, List.length_set] <;> omega)) (by first | omega | (simp only [List.length_append, List.length_map, List.length_cons, List.length_nil, List.length_take, List.length_drop, List.length_set] <;> omega)) _ (by first | omega | (simp only [List.length_append, List.length_map, List.length_cons, List.length_nil, List.length_take, List.length_drop, List.length_set] <;> omega)) (by first | omega | (simp only [List.length_append, List.length_map, List.length_cons, List.length_nil, List.length_take, List.length_drop, List.length_set] <;> omega)) _ (St.begin (Γ := [_, _]) hS132)) rfl (after_M (Γ1 := [_, _]) hS132 (fun v130 G130 w130 hv130 hS130 => ?_))
                      clear hS132
                      obtain ⟨ad130, cp130, da130, dc130, rfl, rfl⟩ := hv130
                      have hS133 : St _ _ [wk kw kd ad130 cp130 (trR rs l p.length s x40.n), dk kd da130 dc130 (trL rs l p.length s x40.n) (trB rs l p.length s x40.n) (trS rs l p.length s x40.n), .blk b41 (.cells #[.int .i64 x40.k, .int .i64 x40.i, .int .i64 x40.n, .slice x40.ad x40.b.length x40.cap] 78), vk kv kr av vc rs2, rdk kr ra rc_ p l q s, .fz g] _ := hS130; clear hS130
                      refine hK _ _ ?_; clear hK K
                      refine l_q rfl rfl (q_moveP rfl) ?_
                      refine l_q rfl rfl (q_moveI rfl) ?_
                      refine l_e rfl (fun K hK => ?_)
                      have hRl134 : (p ++ l ++ q).length = p.length + l.length + q.length := by rw [List.length_append, List.length_append]
                      have hS135 := hS133.fr4; clear hS133
                      have hS136 := hS135.fr4; clear hS135
                      refine e_call (by kernel_rfl) (vTrimF _ _ _ _ _ rs _ _ _ _ _ _ (by first | omega | (simp only [List.length_append, List.length_map, List.length_cons, List.length_nil, List.length_take, List.length_drop, List.length_set] <;> omega)) hI.2.2.2.1 (by first | omega | (simp only [List.length_append, List.length_map, List.length_cons, List.length_nil, List.length_take, List.length_drop, List.length_set] <;> omega)) (by first | omega | (simp only [List.length_append, List.length_map, List.length_cons, List.length_nil, List.length_take, List.length_drop, List.length_set] <;> omega)) hI.2.1 hIab hIlt _ (by first | omega | (simp only [List.length_append, List.length_map, List.length_cons, List.length_nil, List.length_take, List.length_drop, List.length_set] <;> omega)) (by first | omega | (simp only [List.length_append, List.length_map, List.length_cons, List.length_nil, List.length_take, List.length_drop, List.length_set] <;> omega)) _ (St.begin (Γ := [_, _]) hS136)) rfl (after_M (Γ1 := [_, _]) hS136 (fun v134 G134 w134 hv134 hS134 => ?_))
                      clear hS136
                      obtain ⟨ad134, cp134, rs134, p134, rfl, rfl, hp134, hab134, hB134, hQ134, hrs134⟩ := hv134
                      have hS137 : St _ _ [vk kv kr ad134 cp134 rs134, rdk kr ra rc_ p134 (trL rs l p.length s x40.n) q (trS rs l p.length s x40.n), wk kw kd ad130 cp130 (trR rs l p.length s x40.n), dk kd da130 dc130 (trL rs l p.length s x40.n) (trB rs l p.length s x40.n) (trS rs l p.length s x40.n), .blk b41 (.cells #[.int .i64 x40.k, .int .i64 x40.i, .int .i64 x40.n, .slice x40.ad x40.b.length x40.cap] 78), .fz g] _ := hS134; clear hS134
                      refine hK _ _ ?_; clear hK K
                      refine l_q rfl rfl (q_eql rfl rfl) ?_
                      refine l_q rfl rfl (q_assignB rfl) ?_
                      refine l_nil ?_
                      have hS138 : St _ _ [vk kv kr ad134 cp134 rs134, rdk kr ra rc_ p134 (trL rs l p.length s x40.n) q (trS rs l p.length s x40.n), wk kw kd ad130 cp130 (trR rs l p.length s x40.n), dk kd da130 dc130 (trL rs l p.length s x40.n) p134.length (trS rs l p.length s x40.n), .blk b41 (.cells #[.int .i64 x40.k, .int .i64 x40.i, .int .i64 x40.n, .slice x40.ad x40.b.length x40.cap] 78), .fz g] _ := hS137.cast (by rw [show p134.length = (trB rs l p.length s x40.n) from hp134]); clear hS137
                      have hS139 := hS138.fr4; clear hS138
                      have hS140 := hS139.fr5; clear hS139
                      have hS141 := hS140.fr3; clear hS140
                      have hS142 := hS141.fr3; clear hS141
                      have hS143 := hS142.fr5; clear hS142
                      have hS144 := hS143.fr5; clear hS143
                      refine hK54 _ _ (came (⟨kd, kw, kr, kv, da130, ad130, ra, ad134, dc130, cp130, rc_, cp134, (trR rs l p.length s x40.n), rs134, p134, (trL rs l p.length s x40.n), q, (trS rs l p.length s x40.n), g⟩) (by repeat' (first | exact Agree.refl _ _ | refine Agree.up ?_ rfl | refine Agree.hav2 ?_ rfl | refine Agree.ups2 ?_ rfl)) (by repeat' (first | exact trivial | refine ⟨by first | rfl | exact int_succ _ | exact congrArg Value.bool (decide_eq_true rfl) | exact (congrArg Value.bool (decide_eq_true rfl)).symm | assumption, ?_⟩)) ?_)
                      exact ⟨hS144, (hI.trimmed hrs134 hab134 hp134 hB134 hQ134).more (by omega)⟩
                  ·
                    have hc125b := hc125
                    try simp only [decide_eq_true_eq, decide_eq_false_iff_not, Bool.not_eq_true', Bool.not_eq_false', Bool.and_eq_true, Bool.or_eq_true, Int.not_lt, Int.not_le, ne_eq, Decidable.not_not] at hc125
                    refine wp_seq_k (fun K145 hK145 => ?_)
                    refine wp_seq_k (fun K146 hK146 => ?_)
                    refine wp_region_lit ?_
                    refine l_q rfl rfl (q_eql rfl rfl) ?_
                    refine l_q rfl rfl (q_assignB rfl) ?_
                    refine l_nil ?_
                    refine hK146 _ _ ?_
                    refine c_cond rfl (fun hc147 => ?_) (fun hc147 => ?_)
                    ·
                      have hc147b := hc147
                      try simp only [decide_eq_true_eq, decide_eq_false_iff_not, Bool.not_eq_true', Bool.not_eq_false', Bool.and_eq_true, Bool.or_eq_true, Int.not_lt, Int.not_le, ne_eq, Decidable.not_not] at hc147
                      refine wp_skip ?_
                      refine hK145 _ _ ?_
                      refine c_condT rfl hc147b ?_
                      refine wp_seq_k (fun K149 hK149 => ?_)
                      refine wp_seq_k (fun K150 hK150 => ?_)
                      refine wp_region_lit ?_
                      refine l_q rfl rfl (q_fieldAddr (ft := 3) (o := 0) rfl (by kernel_rfl)) ?_
                      refine l_q rfl rfl (q_load1 rfl (by kernel_rfl) (hS42.cell (i := 0) rfl rfl)) ?_
                      refine l_q rfl rfl (q_eql rfl rfl) ?_
                      refine l_nil ?_
                      refine hK150 _ _ ?_
                      refine c_cond rfl (fun hc151 => ?_) (fun hc151 => ?_)
                      ·
                        have hc151b := hc151
                        try simp only [decide_eq_true_eq, decide_eq_false_iff_not, Bool.not_eq_true', Bool.not_eq_false', Bool.and_eq_true, Bool.or_eq_true, Int.not_lt, Int.not_le, ne_eq, Decidable.not_not] at hc151
                        refine wp_seq_k (fun K152 hK152 => ?_)
                        refine wp_region_lit ?_
                        refine l_q rfl rfl (q_moveP rfl) ?_
                        refine l_q rfl rfl (q_fieldAddr (ft := 3) (o := 2) rfl (by kernel_rfl)) ?_
                        refine l_q rfl rfl (q_load1 rfl (by kernel_rfl) (hS42.cell (i := 0) rfl rfl)) ?_
                        refine l_e rfl (fun K hK => ?_)
                        have hS154 := hS42.fr2; clear hS42
                        have hF153 := pwN_le (l := l) (s := s) x40.n (by first | omega | (simp only [List.length_append, List.length_map, List.length_cons, List.length_nil, List.length_take, List.length_drop, List.length_set] <;> omega))
                        refine e_call (by kernel_rfl) (dPower_ok _ _ _ _ _ _ (bytes_mid hI.2.2.2.1) (by first | omega | (simp only [List.length_append, List.length_map, List.length_cons, List.length_nil, List.length_take, List.length_drop, List.length_set] <;> omega)) (by first | omega | (simp only [List.length_append, List.length_map, List.length_cons, List.length_nil, List.length_take, List.length_drop, List.length_set] <;> omega)) _ (by first | omega | (simp only [List.length_append, List.length_map, List.length_cons, List.length_nil, List.length_take, List.length_drop, List.length_set] <;> omega)) _ (St.begin (Γ := [_]) hS154)) rfl (after_M (Γ1 := [_]) hS154 (fun v153 G153 w153 hv153 hS153 => ?_))
                        clear hS154
                        obtain ⟨k153, ad153, cp153, rfl, rfl⟩ := hv153
                        have hS155 : St _ _ [dk k153 ad153 cp153 (l.take (pwN l s x40.n)) p.length (pwN l s x40.n), dk kd da dc l p.length s, .blk b41 (.cells #[.int .i64 x40.k, .int .i64 x40.i, .int .i64 x40.n, .slice x40.ad x40.b.length x40.cap] 78), wk kw kd ad cap rs, vk kv kr av vc rs2, rdk kr ra rc_ p l q s, .fz g] _ := hS153; clear hS153
                        refine hK _ _ ?_; clear hK K
                        refine l_q rfl rfl (q_assignP rfl) ?_
                        refine l_nil ?_
                        refine hK152 _ _ ?_
                        refine wp_region_lit ?_
                        refine l_q rfl rfl (q_moveP rfl) ?_
                        refine l_q rfl rfl (q_fieldAddr (ft := 3) (o := 2) rfl (by kernel_rfl)) ?_
                        refine l_q rfl rfl (q_load1 rfl (by kernel_rfl) (hS155.cell (i := 2) rfl rfl)) ?_
                        refine l_e rfl (fun K hK => ?_)
                        have hS157 := hS155.fr5; clear hS155
                        have hF156 := pwN_le (l := l) (s := s) x40.n (by first | omega | (simp only [List.length_append, List.length_map, List.length_cons, List.length_nil, List.length_take, List.length_drop, List.length_set] <;> omega))
                        have hRl156 : (p ++ l ++ q).length = p.length + l.length + q.length := by rw [List.length_append, List.length_append]
                        refine e_call (by kernel_rfl) (rPower_ok _ _ _ _ _ _ _ hI.2.2.2.1 (by first | omega | (simp only [List.length_append, List.length_map, List.length_cons, List.length_nil, List.length_take, List.length_drop, List.length_set] <;> omega)) (by first | omega | (simp only [List.length_append, List.length_map, List.length_cons, List.length_nil, List.length_take, List.length_drop, List.length_set] <;> omega)) _ (by first | omega | (simp only [List.length_append, List.length_map, List.length_cons, List.length_nil, List.length_take, List.length_drop, List.length_set] <;> omega)) _ (St.begin (Γ := [_]) hS157)) rfl (after_M (Γ1 := [_]) hS157 (fun v156 G156 w156 hv156 hS156 => ?_))
                        clear hS157
                        obtain ⟨k156, ad156, cp156, rfl, rfl⟩ := hv156
                        have hS158 : St _ _ [rdk k156 ad156 cp156 p (l.take (pwN l s x40.n)) ([] : List Nat) (pwN l s x40.n), rdk kr ra rc_ p l q s, dk k153 ad153 cp153 (l.take (pwN l s x40.n)) p.length (pwN l s x40.n), dk kd da dc l p.length s, .blk b41 (.cells #[.int .i64 x40.k, .int .i64 x40.i, .int .i64 x40.n, .slice x40.ad x40.b.length x40.cap] 78), wk kw kd ad cap rs, vk kv kr av vc rs2, .fz g] _ := hS156; clear hS156
                        refine hK _ _ ?_; clear hK K
                        refine l_q rfl rfl (q_assignP rfl) ?_
                        refine l_nil ?_
                        refine hK149 _ _ ?_
                        refine wp_seq_k (fun K159 hK159 => ?_)
                        refine wp_region_lit ?_
                        refine l_q rfl rfl (q_moveP rfl) ?_
                        refine l_e rfl (fun K hK => ?_)
                        have hsl160 := scan_le (l.take (pwN l s x40.n)).length (l.take (pwN l s x40.n)) p.length (Nat.le_refl _)
                        have hS161 := hS158.fr7; clear hS158
                        have hS162 := hS161.fr3; clear hS161
                        refine e_call (by kernel_rfl) (wOpen_ok _ _ _ _ _ _ _ (Bytes.take (bytes_mid hI.2.2.2.1)) (by first | omega | (simp only [List.length_append, List.length_map, List.length_cons, List.length_nil, List.length_take, List.length_drop, List.length_set] <;> omega)) (by first | omega | (simp only [List.length_append, List.length_map, List.length_cons, List.length_nil, List.length_take, List.length_drop, List.length_set] <;> omega)) (by first | omega | (simp only [List.length_append, List.length_map, List.length_cons, List.length_nil, List.length_take, List.length_drop, List.length_set] <;> omega)) _ (St.begin (Γ := [_, _]) hS162)) rfl (after_M (Γ1 := [_, _]) hS162 (fun v160 G160 w160 hv160 hS160 => ?_))
                        clear hS162
                        obtain ⟨k160, ad160, cp160, rs160, da160, dc160, g160, rfl, rfl, hle160, hrs160, hab160⟩ := hv160
                        have hS163 : St _ _ [wk k160 k153 ad160 cp160 rs160, dk k153 da160 dc160 ((l.take (pwN l s x40.n)).take (scan (l.take (pwN l s x40.n)) p.length).2) p.length ((scan (l.take (pwN l s x40.n)) p.length).2), .fz g160, rdk k156 ad156 cp156 p (l.take (pwN l s x40.n)) ([] : List Nat) (pwN l s x40.n), rdk kr ra rc_ p l q s, dk kd da dc l p.length s, .blk b41 (.cells #[.int .i64 x40.k, .int .i64 x40.i, .int .i64 x40.n, .slice x40.ad x40.b.length x40.cap] 78), wk kw kd ad cap rs, vk kv kr av vc rs2] _ := hS160; clear hS160
                        have hR160_7 := RsOk.mono hI.1 hle160
                        have hR160_8 := RsOk.mono hI.2.1 hle160
                        refine hK _ _ ?_; clear hK K
                        refine l_q rfl rfl (q_move rfl) ?_
                        refine l_q rfl rfl (q_extract rfl rfl) ?_
                        refine l_q rfl rfl (q_extract rfl rfl) ?_
                        refine l_q rfl rfl (q_assignP rfl) ?_
                        refine l_q rfl rfl (q_assignI rfl) ?_
                        refine l_nil ?_
                        refine hK159 _ _ ?_
                        refine wp_region_lit ?_
                        refine l_q rfl rfl (q_moveP rfl) ?_
                        refine l_e rfl (fun K hK => ?_)
                        have hRl164 : (p ++ (l.take (pwN l s x40.n)) ++ ([] : List Nat)).length = p.length + (l.take (pwN l s x40.n)).length + ([] : List Nat).length := by rw [List.length_append, List.length_append]
                        have hS165 := hS163.fr3; clear hS163
                        refine e_call (by kernel_rfl) (vOpen_ok _ _ _ _ _ _ _ (bytes_pw hI.2.2.2.1) (by first | omega | (simp only [List.length_append, List.length_map, List.length_cons, List.length_nil, List.length_take, List.length_drop, List.length_set] <;> omega)) (by first | omega | (simp only [List.length_append, List.length_map, List.length_cons, List.length_nil, List.length_take, List.length_drop, List.length_set] <;> omega)) _ (St.begin (Γ := [_]) hS165)) rfl (after_M (Γ1 := [_]) hS165 (fun v164 G164 w164 hv164 hS164 => ?_))
                        clear hS165
                        obtain ⟨k164, ad164, cp164, rs164, q164, g164, rfl, rfl, hrs164, hab164, hB164, hQ164⟩ := hv164
                        have hS166 : St _ _ [vk k164 k156 ad164 cp164 rs164, rdk k156 ad156 cp156 p ((l.take (pwN l s x40.n)).take (scan (l.take (pwN l s x40.n)) p.length).2) q164 ((scan (l.take (pwN l s x40.n)) p.length).2), .fz g164, wk k160 k153 ad160 cp160 rs160, dk k153 da160 dc160 ((l.take (pwN l s x40.n)).take (scan (l.take (pwN l s x40.n)) p.length).2) p.length ((scan (l.take (pwN l s x40.n)) p.length).2), .fz g160, rdk kr ra rc_ p l q s, dk kd da dc l p.length s, .blk b41 (.cells #[.int .i64 x40.k, .int .i64 x40.i, .int .i64 x40.n, .slice x40.ad x40.b.length x40.cap] 78), wk kw kd ad cap rs, vk kv kr av vc rs2] _ := hS164; clear hS164
                        have hS167 := hS166.fr5; clear hS166
                        have hS168 := hS167.fr3; clear hS167
                        obtain ⟨g169, hla169, hlb169, hS169⟩ := hS168.fzJoin; clear hS168
                        have hrs164F := RsOk.mono hrs164 hla169
                        have hle169 := hlb169
                        have hR169_3 := RsOk.mono hrs160 hle169
                        have hR169_8 := RsOk.mono hR160_7 hle169
                        have hR169_9 := RsOk.mono hR160_8 hle169
                        refine hK _ _ ?_; clear hK K
                        refine l_q rfl rfl (q_assignP rfl) ?_
                        refine l_nil ?_
                        have hS170 := hS169.fr7; clear hS169
                        have hS171 := hS170.fr1; clear hS170
                        have hS172 := hS171.fr3; clear hS171
                        have hS173 := hS172.fr3; clear hS172
                        have hS174 := hS173.fr5; clear hS173
                        have hS175 := hS174.fr5; clear hS174
                        have hS176 : St _ _ [wk k160 k153 ad160 cp160 rs160, dk k153 da160 dc160 ((l.take (pwN l s x40.n)).take (scan (l.take (pwN l s x40.n)) p.length).2) p.length ((scan (l.take (pwN l s x40.n)) p.length).2), vk k164 k156 ad164 cp164 rs164, rdk k156 ad156 cp156 p ((l.take (pwN l s x40.n)).take (scan (l.take (pwN l s x40.n)) p.length).2) q164 ((scan (l.take (pwN l s x40.n)) p.length).2), .fz g169, .blk b41 (.cells #[.int .i64 x40.k, .int .i64 x40.i, .int .i64 x40.n, .slice x40.ad x40.b.length x40.cap] 78)] _ := hS175.only 6; clear hS175
                        refine hK54 _ _ (came (⟨k153, k160, k156, k164, da160, ad160, ad156, ad164, dc160, cp160, cp156, cp164, rs160, rs164, p, ((l.take (pwN l s x40.n)).take (scan (l.take (pwN l s x40.n)) p.length).2), q164, ((scan (l.take (pwN l s x40.n)) p.length).2), g169⟩) (by repeat' (first | exact Agree.refl _ _ | refine Agree.up ?_ rfl | refine Agree.hav2 ?_ rfl | refine Agree.ups2 ?_ rfl)) (by repeat' (first | exact trivial | refine ⟨by first | rfl | exact int_succ _ | exact congrArg Value.bool (decide_eq_true rfl) | exact (congrArg Value.bool (decide_eq_true rfl)).symm | assumption, ?_⟩)) ?_)
                        exact ⟨hS176, PInv.opened hR169_3 hrs164F hab160 hab164 hB164 (by refine Nat.le_trans hQ164 ?_; simp only [List.length_append, List.length_take, List.length_nil]; omega)⟩
                      ·
                        have hc151b := hc151
                        try simp only [decide_eq_true_eq, decide_eq_false_iff_not, Bool.not_eq_true', Bool.not_eq_false', Bool.and_eq_true, Bool.or_eq_true, Int.not_lt, Int.not_le, ne_eq, Decidable.not_not] at hc151
                        omega
                    ·
                      have hc147b := hc147
                      try simp only [decide_eq_true_eq, decide_eq_false_iff_not, Bool.not_eq_true', Bool.not_eq_false', Bool.and_eq_true, Bool.or_eq_true, Int.not_lt, Int.not_le, ne_eq, Decidable.not_not] at hc147
                      refine wp_region_lit ?_
                      refine l_q rfl rfl (q_eql rfl rfl) ?_
                      refine l_q rfl rfl (q_assignB rfl) ?_
                      refine l_nil ?_
                      refine hK145 _ _ ?_
                      refine c_cond rfl (fun hc177 => ?_) (fun hc177 => ?_)
                      ·
                        have hc177b := hc177
                        try simp only [decide_eq_true_eq, decide_eq_false_iff_not, Bool.not_eq_true', Bool.not_eq_false', Bool.and_eq_true, Bool.or_eq_true, Int.not_lt, Int.not_le, ne_eq, Decidable.not_not] at hc177
                        refine wp_seq_k (fun K178 hK178 => ?_)
                        refine wp_seq_k (fun K179 hK179 => ?_)
                        refine wp_region_lit ?_
                        refine l_q rfl rfl (q_fieldAddr (ft := 3) (o := 0) rfl (by kernel_rfl)) ?_
                        refine l_q rfl rfl (q_load1 rfl (by kernel_rfl) (hS42.cell (i := 0) rfl rfl)) ?_
                        refine l_q rfl rfl (q_eql rfl rfl) ?_
                        refine l_nil ?_
                        refine hK179 _ _ ?_
                        refine c_cond rfl (fun hc180 => ?_) (fun hc180 => ?_)
                        ·
                          have hc180b := hc180
                          try simp only [decide_eq_true_eq, decide_eq_false_iff_not, Bool.not_eq_true', Bool.not_eq_false', Bool.and_eq_true, Bool.or_eq_true, Int.not_lt, Int.not_le, ne_eq, Decidable.not_not] at hc180
                          omega
                        ·
                          have hc180b := hc180
                          try simp only [decide_eq_true_eq, decide_eq_false_iff_not, Bool.not_eq_true', Bool.not_eq_false', Bool.and_eq_true, Bool.or_eq_true, Int.not_lt, Int.not_le, ne_eq, Decidable.not_not] at hc180
                          refine wp_seq_k (fun K181 hK181 => ?_)
                          refine wp_region_lit ?_
                          refine l_q rfl rfl (q_moveP rfl) ?_
                          refine l_q rfl rfl (q_fieldAddr (ft := 23) (o := 3) rfl (by kernel_rfl)) ?_
                          refine l_q rfl rfl (q_load1 rfl (by kernel_rfl) (hS42.cell (i := 0) rfl rfl)) ?_
                          refine l_e rfl (fun K hK => ?_)
                          have hS183 := hS42.fr2; clear hS42
                          refine e_call (by kernel_rfl) (dAppend_ok _ _ _ _ _ _ (bytes_mid hI.2.2.2.1) (by first | omega | (simp only [List.length_append, List.length_map, List.length_cons, List.length_nil, List.length_take, List.length_drop, List.length_set] <;> omega)) (by first | omega | (simp only [List.length_append, List.length_map, List.length_cons, List.length_nil, List.length_take, List.length_drop, List.length_set] <;> omega)) _ _ x40.b (hok x40 (List.mem_of_getElem? hx40)).2.2.2.2.1 _ _ (hok x40 (List.mem_of_getElem? hx40)).2.2.2.1 _ (St.rogB (Γ1 := [_]) hS183) (by first | omega | (simp only [List.length_append, List.length_map, List.length_cons, List.length_nil, List.length_take, List.length_drop, List.length_set] <;> omega)) (by first | omega | (simp only [List.length_append, List.length_map, List.length_cons, List.length_nil, List.length_take, List.length_drop, List.length_set] <;> omega)) (St.begin (Γ := [_]) hS183)) rfl (after_M (Γ1 := [_]) hS183 (fun v182 G182 w182 hv182 hS182 => ?_))
                          clear hS183
                          obtain ⟨ad182, cp182, rfl, rfl⟩ := hv182
                          have hS184 : St _ _ [dk kd ad182 cp182 (apL l x40.b) p.length s, .blk b41 (.cells #[.int .i64 x40.k, .int .i64 x40.i, .int .i64 x40.n, .slice x40.ad x40.b.length x40.cap] 78), wk kw kd ad cap rs, vk kv kr av vc rs2, rdk kr ra rc_ p l q s, .fz g] _ := hS182; clear hS182
                          have hB182 : Bytes (apL l x40.b) := apL_bytes (bytes_mid hI.2.2.2.1) (hok x40 (List.mem_of_getElem? hx40)).2.2.2.2.1
                          have hL182 := apL_len l x40.b
                          refine hK _ _ ?_; clear hK K
                          refine l_nil ?_
                          refine hK181 _ _ ?_
                          refine wp_region_lit ?_
                          refine l_q rfl rfl (q_moveP rfl) ?_
                          refine l_q rfl rfl (q_fieldAddr (ft := 23) (o := 3) rfl (by kernel_rfl)) ?_
                          refine l_q rfl rfl (q_load1 rfl (by kernel_rfl) (hS184.cell (i := 1) rfl rfl)) ?_
                          refine l_e rfl (fun K hK => ?_)
                          have hS186 := hS184.fr4; clear hS184
                          have hRl185 : (p ++ l ++ q).length = p.length + l.length + q.length := by rw [List.length_append, List.length_append]
                          refine e_call (by kernel_rfl) (rAppend_ok _ _ _ _ _ _ _ hI.2.2.2.1 (by first | omega | (simp only [List.length_append, List.length_map, List.length_cons, List.length_nil, List.length_take, List.length_drop, List.length_set] <;> omega)) (by first | omega | (simp only [List.length_append, List.length_map, List.length_cons, List.length_nil, List.length_take, List.length_drop, List.length_set] <;> omega)) _ x40.b (hok x40 (List.mem_of_getElem? hx40)).2.2.2.2.1 _ _ (by first | omega | (simp only [List.length_append, List.length_map, List.length_cons, List.length_nil, List.length_take, List.length_drop, List.length_set] <;> omega)) (hok x40 (List.mem_of_getElem? hx40)).2.2.2.1 _ (St.rogB (Γ1 := [_]) hS186) (St.begin (Γ := [_]) hS186)) rfl (after_M (Γ1 := [_]) hS186 (fun v185 G185 w185 hv185 hS185 => ?_))
                          clear hS186
                          obtain ⟨ad185, cp185, q185, rfl, rfl, hB185, hQ185⟩ := hv185
                          have hS187 : St _ _ [rdk kr ad185 cp185 p (apL l x40.b) q185 s, dk kd ad182 cp182 (apL l x40.b) p.length s, .blk b41 (.cells #[.int .i64 x40.k, .int .i64 x40.i, .int .i64 x40.n, .slice x40.ad x40.b.length x40.cap] 78), wk kw kd ad cap rs, vk kv kr av vc rs2, .fz g] _ := hS185; clear hS185
                          have hL185 := apL_len l x40.b
                          refine hK _ _ ?_; clear hK K
                          refine l_nil ?_
                          refine hK178 _ _ ?_
                          refine wp_seq_k (fun K188 hK188 => ?_)
                          refine wp_region_lit ?_
                          refine l_q rfl rfl (q_moveP rfl) ?_
                          refine l_e rfl (fun K hK => ?_)
                          have hsl189 := scan_le (apL l x40.b).length (apL l x40.b) p.length (Nat.le_refl _)
                          have hS190 := hS187.fr5; clear hS187
                          have hS191 := hS190.fr2; clear hS190
                          refine e_call (by kernel_rfl) (wOpen_ok _ _ _ _ _ _ _ hB182 (by first | omega | (simp only [List.length_append, List.length_map, List.length_cons, List.length_nil, List.length_take, List.length_drop, List.length_set] <;> omega)) (by first | omega | (simp only [List.length_append, List.length_map, List.length_cons, List.length_nil, List.length_take, List.length_drop, List.length_set] <;> omega)) (by first | omega | (simp only [List.length_append, List.length_map, List.length_cons, List.length_nil, List.length_take, List.length_drop, List.length_set] <;> omega)) _ (St.begin (Γ := [_, _]) hS191)) rfl (after_M (Γ1 := [_, _]) hS191 (fun v189 G189 w189 hv189 hS189 => ?_))
                          clear hS191
                          obtain ⟨k189, ad189, cp189, rs189, da189, dc189, g189, rfl, rfl, hle189, hrs189, hab189⟩ := hv189
                          have hS192 : St _ _ [wk k189 kd ad189 cp189 rs189, dk kd da189 dc189 ((apL l x40.b).take (scan (apL l x40.b) p.length).2) p.length ((scan (apL l x40.b) p.length).2), .fz g189, rdk kr ad185 cp185 p (apL l x40.b) q185 s, .blk b41 (.cells #[.int .i64 x40.k, .int .i64 x40.i, .int .i64 x40.n, .slice x40.ad x40.b.length x40.cap] 78), wk kw kd ad cap rs, vk kv kr av vc rs2] _ := hS189; clear hS189
                          have hR189_5 := RsOk.mono hI.1 hle189
                          have hR189_6 := RsOk.mono hI.2.1 hle189
                          refine hK _ _ ?_; clear hK K
                          refine l_q rfl rfl (q_move rfl) ?_
                          refine l_q rfl rfl (q_extract rfl rfl) ?_
                          refine l_q rfl rfl (q_extract rfl rfl) ?_
                          refine l_q rfl rfl (q_assignP rfl) ?_
                          refine l_q rfl rfl (q_assignI rfl) ?_
                          refine l_nil ?_
                          refine hK188 _ _ ?_
                          refine wp_region_lit ?_
                          refine l_q rfl rfl (q_moveP rfl) ?_
                          refine l_e rfl (fun K hK => ?_)
                          have hRl193 : (p ++ (apL l x40.b) ++ q185).length = p.length + (apL l x40.b).length + q185.length := by rw [List.length_append, List.length_append]
                          have hS194 := hS192.fr3; clear hS192
                          refine e_call (by kernel_rfl) (vOpen_ok _ _ _ _ _ _ _ hB185 (by first | omega | (simp only [List.length_append, List.length_map, List.length_cons, List.length_nil, List.length_take, List.length_drop, List.length_set] <;> omega)) (by first | omega | (simp only [List.length_append, List.length_map, List.length_cons, List.length_nil, List.length_take, List.length_drop, List.length_set] <;> omega)) _ (St.begin (Γ := [_]) hS194)) rfl (after_M (Γ1 := [_]) hS194 (fun v193 G193 w193 hv193 hS193 => ?_))
                          clear hS194
                          obtain ⟨k193, ad193, cp193, rs193, q193, g193, rfl, rfl, hrs193, hab193, hB193, hQ193⟩ := hv193
                          have hS195 : St _ _ [vk k193 kr ad193 cp193 rs193, rdk kr ad185 cp185 p ((apL l x40.b).take (scan (apL l x40.b) p.length).2) q193 ((scan (apL l x40.b) p.length).2), .fz g193, wk k189 kd ad189 cp189 rs189, dk kd da189 dc189 ((apL l x40.b).take (scan (apL l x40.b) p.length).2) p.length ((scan (apL l x40.b) p.length).2), .fz g189, .blk b41 (.cells #[.int .i64 x40.k, .int .i64 x40.i, .int .i64 x40.n, .slice x40.ad x40.b.length x40.cap] 78), wk kw kd ad cap rs, vk kv kr av vc rs2] _ := hS193; clear hS193
                          have hS196 := hS195.fr5; clear hS195
                          have hS197 := hS196.fr3; clear hS196
                          obtain ⟨g198, hla198, hlb198, hS198⟩ := hS197.fzJoin; clear hS197
                          have hrs193F := RsOk.mono hrs193 hla198
                          have hle198 := hlb198
                          have hR198_3 := RsOk.mono hrs189 hle198
                          have hR198_6 := RsOk.mono hR189_5 hle198
                          have hR198_7 := RsOk.mono hR189_6 hle198
                          refine hK _ _ ?_; clear hK K
                          refine l_q rfl rfl (q_assignP rfl) ?_
                          refine l_nil ?_
                          have hS199 := hS198.fr5; clear hS198
                          have hS200 := hS199.fr1; clear hS199
                          have hS201 := hS200.fr3; clear hS200
                          have hS202 := hS201.fr3; clear hS201
                          have hS203 := hS202.fr5; clear hS202
                          have hS204 := hS203.fr5; clear hS203
                          have hS205 : St _ _ [wk k189 kd ad189 cp189 rs189, dk kd da189 dc189 ((apL l x40.b).take (scan (apL l x40.b) p.length).2) p.length ((scan (apL l x40.b) p.length).2), vk k193 kr ad193 cp193 rs193, rdk kr ad185 cp185 p ((apL l x40.b).take (scan (apL l x40.b) p.length).2) q193 ((scan (apL l x40.b) p.length).2), .fz g198, .blk b41 (.cells #[.int .i64 x40.k, .int .i64 x40.i, .int .i64 x40.n, .slice x40.ad x40.b.length x40.cap] 78)] _ := hS204.only 6; clear hS204
                          refine hK54 _ _ (came (⟨kd, k189, kr, k193, da189, ad189, ad185, ad193, dc189, cp189, cp185, cp193, rs189, rs193, p, ((apL l x40.b).take (scan (apL l x40.b) p.length).2), q193, ((scan (apL l x40.b) p.length).2), g198⟩) (by repeat' (first | exact Agree.refl _ _ | refine Agree.up ?_ rfl | refine Agree.hav2 ?_ rfl | refine Agree.ups2 ?_ rfl)) (by repeat' (first | exact trivial | refine ⟨by first | rfl | exact int_succ _ | exact congrArg Value.bool (decide_eq_true rfl) | exact (congrArg Value.bool (decide_eq_true rfl)).symm | assumption, ?_⟩)) ?_)
                          exact ⟨hS205, PInv.opened hR198_3 hrs193F hab189 hab193 hB193 (by refine Nat.le_trans hQ193 ?_; simp only [List.length_append, List.length_take, List.length_nil]; omega)⟩
                      ·
                        have hc177b := hc177
                        try simp only [decide_eq_true_eq, decide_eq_false_iff_not, Bool.not_eq_true', Bool.not_eq_false', Bool.and_eq_true, Bool.or_eq_true, Int.not_lt, Int.not_le, ne_eq, Decidable.not_not] at hc177
                        refine wp_skip ?_
                        have hS206 := hS42.fr5; clear hS42
                        have hS207 := hS206.fr5; clear hS206
                        have hS208 := hS207.fr5; clear hS207
                        have hS209 := hS208.fr5; clear hS208
                        have hS210 := hS209.fr5; clear hS209
                        refine hK54 _ _ (came (⟨kd, kw, kr, kv, da, ad, ra, av, dc, cap, rc_, vc, rs, rs2, p, l, q, s, g⟩) (by repeat' (first | exact Agree.refl _ _ | refine Agree.up ?_ rfl | refine Agree.hav2 ?_ rfl | refine Agree.ups2 ?_ rfl)) (by repeat' (first | exact trivial | refine ⟨by first | rfl | exact int_succ _ | exact congrArg Value.bool (decide_eq_true rfl) | exact (congrArg Value.bool (decide_eq_true rfl)).symm | assumption, ?_⟩)) ?_)
                        exact ⟨hS210, hI.more (by omega)⟩
          ·
            obtain ⟨kd, kw, kr, kv, da, ad, ra, av, dc, cap, rc_, vc, rs, rs2, p, l, q, s, g⟩ := x54
            obtain ⟨hS54, hI⟩ := hJ54
            try dsimp only at hS54 hI ⊢
            have hAl : (p ++ l ++ q).length = p.length + l.length + q.length := by rw [List.length_append, List.length_append]
            obtain ⟨_, _, hIab, _, hIs, hIn, hIw⟩ := id hI
            have hIlt := hI.lt
            have hIl := whole_len hIw
            have hIl2 := abs_len hIab
            refine wp_seq_k (fun K211 hK211 => ?_)
            refine r_any (by kernel_rfl) hS54 (fun w212 hS212 => ?_)
            clear hS54
            refine o_pure (i := 0) (fun _ _ => trivial) rfl rfl (by kernel_rfl) (goes0 rfl) (QOk.then (QOk.inBlock (QOk.then (QOk.then (QOk.inBlock (QOk.then QOk.body)))))) (fun w => q_moveP rfl) ?_
            refine o_pure (i := 2) (fun _ _ => trivial) rfl rfl (by kernel_rfl) (goes0 rfl) (QOk.then (QOk.inBlock (QOk.then (QOk.then (QOk.inBlock (QOk.then QOk.body)))))) (fun w => q_moveP rfl) ?_
            refine o_pure (i := 3) (fun _ _ => trivial) rfl rfl (by kernel_rfl) (goes0 rfl) (QOk.then (QOk.inBlock (QOk.then (QOk.then (QOk.inBlock (QOk.then QOk.body)))))) (fun w => q_nilCheck rfl) ?_
            refine o_pure (i := 4) (fun _ _ => trivial) rfl rfl (by kernel_rfl) (goes0 rfl) (QOk.then (QOk.inBlock (QOk.then (QOk.then (QOk.inBlock (QOk.then QOk.body)))))) (fun w => q_fieldAddr (ft := 92) (o := 1) rfl (by kernel_rfl)) ?_
            have hS213 := hS212.fr2; clear hS212
            have hS214 := vk_open hS213; clear hS213
            refine o_held (i := 5) [6, 7] (fun _ _ => trivial) rfl rfl (by kernel_rfl) (goes0 rfl) (QOk.then (QOk.inBlock (QOk.then (QOk.then (QOk.inBlock (QOk.then QOk.body)))))) (q_load1 rfl (by kernel_rfl) (hS214.cell (i := 0) rfl rfl)) ?_
            refine o_eff (i := 1) (by kernel_rfl) rfl (goes0 rfl) (fun K hK => ?_)
            have hS216 := hS214.fr2; clear hS214
            refine e_call (by kernel_rfl) (wNumbers_ok _ _ _ _ _ (by first | omega | (simp only [List.length_append, List.length_map, List.length_cons, List.length_nil, List.length_take, List.length_drop, List.length_set] <;> omega)) _ (St.begin (Γ := [_]) hS216)) rfl (after_M (Γ1 := [_]) hS216 (fun v215 G215 w215 hv215 hS215 => ?_))
            clear hS216
            obtain ⟨ad215, cp215, rfl, rfl⟩ := hv215
            have hS217 : St _ _ [.ow 3 1 ad215 rs.length cp215 (iv (nums rs)), wk kw kd ad cap rs, .blk kv (.cells #[.pointer (some ⟨kr, 0, none⟩), .slice av rs2.length vc] 94), .ow 96 2 av rs2.length vc (List.flatMap rc rs2), dk kd da dc l p.length s, rdk kr ra rc_ p l q s, .fz g, .blk b41 (.cells #[.int .i64 x40.k, .int .i64 x40.i, .int .i64 x40.n, .slice x40.ad x40.b.length x40.cap] 78)] _ := hS215; clear hS215
            refine hK _ _ ⟨trivial, fun _ _ => by first | exact q_load1 rfl (by kernel_rfl) (hS217.cell (i := 2) rfl rfl)⟩ ?_; clear hK K
            refine o_eff (i := 6) (by kernel_rfl) rfl (goes0 rfl) (fun K hK => ?_)
            refine e_call (by kernel_rfl) (same_ok rs rs2 rs.length rs2.length (by first | omega | (simp only [List.length_append, List.length_map, List.length_cons, List.length_nil, List.length_take, List.length_drop, List.length_set] <;> omega)) (by first | omega | (simp only [List.length_append, List.length_map, List.length_cons, List.length_nil, List.length_take, List.length_drop, List.length_set] <;> omega)) (by first | omega | (simp only [List.length_append, List.length_map, List.length_cons, List.length_nil, List.length_take, List.length_drop, List.length_set] <;> omega)) _ _ _ _ _ (hS217.owG (i := 0) rfl) (hS217.owG (i := 3) rfl)) rfl (after_R hS217 (fun v218 w218 hv218 hS218 => ?_))
            clear hS217
            obtain rfl := hv218
            refine hK _ _ ⟨trivial, fun h => absurd h (by decide)⟩ ?_; clear hK K
            refine o_pure (i := 7) (fun j w => ⟨(fun _ _ => trivial) j w, fun _ h => h⟩) rfl rfl (by kernel_rfl) (goes0 rfl) (QOk.then (QOk.inBlock (QOk.then (QOk.then (QOk.inBlock (QOk.then QOk.body)))))) (fun w => q_assignB rfl) ?_
            refine o_done (by kernel_rfl) ?_
            refine hK211 _ _ ?_
            refine wp_seq_k (fun K219 hK219 => ?_)
            refine wp_seq_k (fun K220 hK220 => ?_)
            refine r_any (by kernel_rfl) hS218 (fun w221 hS221 => ?_)
            clear hS218
            refine o_pure (i := 0) (fun _ _ => trivial) rfl rfl (by kernel_rfl) (goes0 rfl) (QOk.then (QOk.then (QOk.inBlock (QOk.then (QOk.then (QOk.inBlock (QOk.then QOk.body))))))) (fun w => q_moveB rfl) ?_
            refine o_pure (i := 1) (fun _ _ => trivial) rfl rfl (by kernel_rfl) (goes0 rfl) (QOk.then (QOk.then (QOk.inBlock (QOk.then (QOk.then (QOk.inBlock (QOk.then QOk.body))))))) (fun w => q_not rfl) ?_
            refine o_pure (i := 2) (fun _ _ => trivial) rfl rfl (by kernel_rfl) (goes0 rfl) (QOk.then (QOk.then (QOk.inBlock (QOk.then (QOk.then (QOk.inBlock (QOk.then QOk.body))))))) (fun w => q_moveB rfl) ?_
            refine o_pure (i := 3) (fun _ _ => trivial) rfl rfl (by kernel_rfl) (goes1 rfl rfl rfl) (QOk.then (QOk.then (QOk.inBlock (QOk.then (QOk.then (QOk.inBlock (QOk.then QOk.body))))))) (fun w => q_moveI rfl) ?_
            refine o_pure (i := 4) (fun _ _ => trivial) rfl rfl (by kernel_rfl) (goes1 rfl rfl rfl) (QOk.then (QOk.then (QOk.inBlock (QOk.then (QOk.then (QOk.inBlock (QOk.then QOk.body))))))) (fun w => q_neq rfl rfl) ?_
            refine o_pure (i := 5) (fun _ _ => trivial) rfl rfl (by kernel_rfl) (goes0 rfl) (QOk.then (QOk.then (QOk.inBlock (QOk.then (QOk.then (QOk.inBlock (QOk.then QOk.body))))))) (fun w => q_pickF rfl rfl rfl) ?_
            refine o_pure (i := 6) (fun _ _ => trivial) rfl rfl (by kernel_rfl) (goes0 rfl) (QOk.then (QOk.then (QOk.inBlock (QOk.then (QOk.then (QOk.inBlock (QOk.then QOk.body))))))) (fun w => q_moveB rfl) ?_
            refine o_pure (i := 7) (fun _ _ => trivial) rfl rfl (by kernel_rfl) (goes1 rfl rfl (by decide)) (QOk.then (QOk.then (QOk.inBlock (QOk.then (QOk.then (QOk.inBlock (QOk.then QOk.body))))))) (fun w => q_moveB rfl) ?_
            refine o_pure (i := 8) (fun _ _ => trivial) rfl rfl (by kernel_rfl) (goes1 rfl rfl (by decide)) (QOk.then (QOk.then (QOk.inBlock (QOk.then (QOk.then (QOk.inBlock (QOk.then QOk.body))))))) (fun w => q_not rfl) ?_
            refine o_pure (i := 9) (fun _ _ => trivial) rfl rfl (by kernel_rfl) (goes0 rfl) (QOk.then (QOk.then (QOk.inBlock (QOk.then (QOk.then (QOk.inBlock (QOk.then QOk.body))))))) (fun w => q_pickF rfl (by decide) rfl) ?_
            refine o_pure (i := 10) (fun _ _ => trivial) rfl rfl (by kernel_rfl) (goes0 rfl) (QOk.then (QOk.then (QOk.inBlock (QOk.then (QOk.then (QOk.inBlock (QOk.then QOk.body))))))) (fun w => q_moveB rfl) ?_
            refine o_pure (i := 11) (fun _ _ => trivial) rfl rfl (by kernel_rfl) (goes1 rfl rfl (by rw [sameB_abs hIab]; rfl)) (QOk.then (QOk.then (QOk.inBlock (QOk.then (QOk.then (QOk.inBlock (QOk.then QOk.body))))))) (fun w => q_moveP rfl) ?_
            refine o_pure (i := 13) (fun _ _ => trivial) rfl rfl (by kernel_rfl) (goes1 rfl rfl (by rw [sameB_abs hIab]; rfl)) (QOk.then (QOk.then (QOk.inBlock (QOk.then (QOk.then (QOk.inBlock (QOk.then QOk.body))))))) (fun w => q_moveP rfl) ?_
            refine o_eff (i := 12) (by kernel_rfl) rfl (goes1 rfl rfl (by rw [sameB_abs hIab]; rfl)) (fun K hK => ?_)
            have hS224 := hS221.fr4; clear hS221
            have hS225 := hS224.fr2; clear hS224
            refine e_call (by kernel_rfl) (wSafe_ok _ _ _ _ _ _ _ _ _ _ (by first | omega | (simp only [List.length_append, List.length_map, List.length_cons, List.length_nil, List.length_take, List.length_drop, List.length_set] <;> omega)) (bytes_mid hI.2.2.2.1) (by first | omega | (simp only [List.length_append, List.length_map, List.length_cons, List.length_nil, List.length_take, List.length_drop, List.length_set] <;> omega)) (by first | omega | (simp only [List.length_append, List.length_map, List.length_cons, List.length_nil, List.length_take, List.length_drop, List.length_set] <;> omega)) _ hI.1 _ (St.begin (Γ := [_, _]) hS225)) rfl (after_M (Γ1 := [_, _]) hS225 (fun v223 G223 w223 hv223 hS223 => ?_))
            clear hS225
            obtain ⟨rfl, rfl⟩ := hv223
            have hS226 : St _ _ [wk kw kd ad cap rs, dk kd da dc l p.length s, .ow 3 1 ad215 rs.length cp215 (iv (nums rs)), .blk kv (.cells #[.pointer (some ⟨kr, 0, none⟩), .slice av rs2.length vc] 94), .ow 96 2 av rs2.length vc (List.flatMap rc rs2), rdk kr ra rc_ p l q s, .fz g, .blk b41 (.cells #[.int .i64 x40.k, .int .i64 x40.i, .int .i64 x40.n, .slice x40.ad x40.b.length x40.cap] 78)] _ := hS223; clear hS223
            refine hK _ _ trivial ?_; clear hK K
            refine o_eff (i := 14) (by kernel_rfl) rfl (goes1 rfl rfl (by rw [sameB_abs hIab]; rfl)) (fun K hK => ?_)
            have hS228 := hS226.fr4; clear hS226
            have hS229 := hS228.fr4; clear hS228
            have hS230 := vk_close hS229; clear hS229
            have hRl227 : (p ++ l ++ q).length = p.length + l.length + q.length := by rw [List.length_append, List.length_append]
            have hS231 := hS230.fr4; clear hS230
            have hS232 := hS231.fr1; clear hS231
            refine e_call (by kernel_rfl) (vSafe_ok _ _ _ _ _ _ _ _ _ _ _ (by first | omega | (simp only [List.length_append, List.length_map, List.length_cons, List.length_nil, List.length_take, List.length_drop, List.length_set] <;> omega)) hI.2.2.2.1 (by first | omega | (simp only [List.length_append, List.length_map, List.length_cons, List.length_nil, List.length_take, List.length_drop, List.length_set] <;> omega)) (by first | omega | (simp only [List.length_append, List.length_map, List.length_cons, List.length_nil, List.length_take, List.length_drop, List.length_set] <;> omega)) _ hI.2.1 _ (St.begin (Γ := [_, _]) hS232)) rfl (after_M (Γ1 := [_, _]) hS232 (fun v227 G227 w227 hv227 hS227 => ?_))
            clear hS232
            obtain ⟨rfl, rfl⟩ := hv227
            have hS233 : St _ _ [vk kv kr av vc rs2, rdk kr ra rc_ p l q s, wk kw kd ad cap rs, dk kd da dc l p.length s, .ow 3 1 ad215 rs.length cp215 (iv (nums rs)), .fz g, .blk b41 (.cells #[.int .i64 x40.k, .int .i64 x40.i, .int .i64 x40.n, .slice x40.ad x40.b.length x40.cap] 78)] _ := hS227; clear hS227
            refine hK _ _ trivial ?_; clear hK K
            refine o_pure (i := 15) (fun _ _ => trivial) rfl rfl (by kernel_rfl) (goes1 rfl rfl (by rw [sameB_abs hIab]; rfl)) (QOk.then (QOk.then (QOk.inBlock (QOk.then (QOk.then (QOk.inBlock (QOk.then QOk.body))))))) (fun w => q_neq rfl rfl) ?_
            refine o_pure (i := 16) (fun _ _ => trivial) rfl rfl (by kernel_rfl) (goes0 rfl) (QOk.then (QOk.then (QOk.inBlock (QOk.then (QOk.then (QOk.inBlock (QOk.then QOk.body))))))) (fun w => q_pickF rfl (by rw [sameB_abs hIab]; rfl) rfl) ?_
            refine o_pure (i := 17) (fun _ _ => trivial) rfl rfl (by kernel_rfl) (goes0 rfl) (QOk.then (QOk.then (QOk.inBlock (QOk.then (QOk.then (QOk.inBlock (QOk.then QOk.body))))))) (fun w => q_moveB rfl) ?_
            refine o_pure (i := 18) (fun _ _ => trivial) rfl rfl (by kernel_rfl) (goes1 rfl rfl (decide_eq_false (by rw [cnt_abs hIab]; simp))) (QOk.then (QOk.then (QOk.inBlock (QOk.then (QOk.then (QOk.inBlock (QOk.then QOk.body))))))) (fun w => q_moveP rfl) ?_
            refine o_pure (i := 20) (fun _ _ => trivial) rfl rfl (by kernel_rfl) (goes1 rfl rfl (decide_eq_false (by rw [cnt_abs hIab]; simp))) (QOk.then (QOk.then (QOk.inBlock (QOk.then (QOk.then (QOk.inBlock (QOk.then QOk.body))))))) (fun w => q_moveP rfl) ?_
            refine o_pure (i := 21) (fun _ _ => trivial) rfl rfl (by kernel_rfl) (goes1 rfl rfl (decide_eq_false (by rw [cnt_abs hIab]; simp))) (QOk.then (QOk.then (QOk.inBlock (QOk.then (QOk.then (QOk.inBlock (QOk.then QOk.body))))))) (fun w => q_nilCheck rfl) ?_
            refine o_pure (i := 22) (fun _ _ => trivial) rfl rfl (by kernel_rfl) (goes1 rfl rfl (decide_eq_false (by rw [cnt_abs hIab]; simp))) (QOk.then (QOk.then (QOk.inBlock (QOk.then (QOk.then (QOk.inBlock (QOk.then QOk.body))))))) (fun w => q_fieldAddr (ft := 3) (o := 1) rfl (by kernel_rfl)) ?_
            have hS235 := hS233.fr1; clear hS233
            have hS236 := rd_open hS235; clear hS235
            refine o_held (i := 23) [24, 25, 26, 27, 28, 29, 30, 31, 32, 33, 34, 35, 36, 37, 38, 39, 40, 41, 42, 43] (fun _ _ => trivial) rfl rfl (by kernel_rfl) (goes1 rfl rfl (decide_eq_false (by rw [cnt_abs hIab]; simp))) (QOk.then (QOk.then (QOk.inBlock (QOk.then (QOk.then (QOk.inBlock (QOk.then QOk.body))))))) (q_load1 rfl (by kernel_rfl) (hS236.cell (i := 0) rfl rfl)) ?_
            refine o_eff (i := 19) (by kernel_rfl) rfl (goes1 rfl rfl (decide_eq_false (by rw [cnt_abs hIab]; simp))) (fun K hK => ?_)
            have hS238 := hS236.fr4; clear hS236
            refine e_call (by kernel_rfl) (dBegin_ok _ _ _ _ _ _  _ (St.begin (Γ := [_]) hS238)) rfl (after_M (Γ1 := [_]) hS238 (fun v237 G237 w237 hv237 hS237 => ?_))
            clear hS238
            obtain ⟨rfl, rfl⟩ := hv237
            have hS239 : St _ _ [dk kd da dc l p.length s, .blk kr (.cells #[.slice ra ((p ++ l ++ q).length) rc_, .int .i64 ((p.length : Nat) : Int), .int .i64 (((p.length + l.length) : Nat) : Int), .int .i64 (((p.length + s) : Nat) : Int)] 85), .ow 5 1 ra ((p ++ l ++ q).length) rc_ (bv (p ++ l ++ q)), vk kv kr av vc rs2, wk kw kd ad cap rs, .ow 3 1 ad215 rs.length cp215 (iv (nums rs)), .fz g, .blk b41 (.cells #[.int .i64 x40.k, .int .i64 x40.i, .int .i64 x40.n, .slice x40.ad x40.b.length x40.cap] 78)] _ := hS237; clear hS237
            refine hK _ _ ⟨trivial, fun _ _ => by first | exact q_load1 rfl (by kernel_rfl) (hS239.cell (i := 1) rfl rfl)⟩ ?_; clear hK K
            refine o_pure (i := 24) (fun j w => ⟨(fun _ _ => trivial) j w, fun _ h => h⟩) rfl rfl (by kernel_rfl) (goes1 rfl rfl (decide_eq_false (by rw [cnt_abs hIab]; simp))) (QOk.then (QOk.then (QOk.inBlock (QOk.then (QOk.then (QOk.inBlock (QOk.then QOk.body))))))) (fun w => q_neq rfl rfl) ?_
            refine o_pure (i := 25) (fun j w => ⟨(fun _ _ => trivial) j w, fun _ h => h⟩) rfl rfl (by kernel_rfl) (goes0 rfl) (QOk.then (QOk.then (QOk.inBlock (QOk.then (QOk.then (QOk.inBlock (QOk.then QOk.body))))))) (fun w => q_pickF rfl (decide_eq_false (by rw [cnt_abs hIab]; simp)) rfl) ?_
            refine o_pure (i := 26) (fun j w => ⟨(fun _ _ => trivial) j w, fun _ h => h⟩) rfl rfl (by kernel_rfl) (goes0 rfl) (QOk.then (QOk.then (QOk.inBlock (QOk.then (QOk.then (QOk.inBlock (QOk.then QOk.body))))))) (fun w => q_moveB rfl) ?_
            refine o_pure (i := 27) (fun j w => ⟨(fun _ _ => trivial) j w, fun _ h => h⟩) rfl rfl (by kernel_rfl) (goes1 rfl rfl (decide_eq_false (by simp))) (QOk.then (QOk.then (QOk.inBlock (QOk.then (QOk.then (QOk.inBlock (QOk.then QOk.body))))))) (fun w => q_moveP rfl) ?_
            refine o_pure (i := 29) (fun j w => ⟨(fun _ _ => trivial) j w, fun _ h => h⟩) rfl rfl (by kernel_rfl) (goes1 rfl rfl (decide_eq_false (by simp))) (QOk.then (QOk.then (QOk.inBlock (QOk.then (QOk.then (QOk.inBlock (QOk.then QOk.body))))))) (fun w => q_moveP rfl) ?_
            refine o_pure (i := 30) (fun j w => ⟨(fun _ _ => trivial) j w, fun _ h => h⟩) rfl rfl (by kernel_rfl) (goes1 rfl rfl (decide_eq_false (by simp))) (QOk.then (QOk.then (QOk.inBlock (QOk.then (QOk.then (QOk.inBlock (QOk.then QOk.body))))))) (fun w => q_nilCheck rfl) ?_
            refine o_pure (i := 31) (fun j w => ⟨(fun _ _ => trivial) j w, fun _ h => h⟩) rfl rfl (by kernel_rfl) (goes1 rfl rfl (decide_eq_false (by simp))) (QOk.then (QOk.then (QOk.inBlock (QOk.then (QOk.then (QOk.inBlock (QOk.then QOk.body))))))) (fun w => q_fieldAddr (ft := 3) (o := 2) rfl (by kernel_rfl)) ?_
            refine o_held (i := 32) [33, 34, 35, 36, 37, 38, 39, 40, 41, 42, 43] (fun j w => ⟨(fun _ _ => trivial) j w, fun _ h => h⟩) rfl rfl (by kernel_rfl) (goes1 rfl rfl (decide_eq_false (by simp))) (QOk.then (QOk.then (QOk.inBlock (QOk.then (QOk.then (QOk.inBlock (QOk.then QOk.body))))))) (q_load1 rfl (by kernel_rfl) (hS239.cell (i := 1) rfl rfl)) ?_
            refine o_eff (i := 28) (by kernel_rfl) rfl (goes1 rfl rfl (decide_eq_false (by simp))) (fun K hK => ?_)
            refine e_call (by kernel_rfl) (dEnd_ok _ _ _ _ _ _ (bytes_mid hI.2.2.2.1) (by first | omega | (simp; omega)) (by first | omega | (simp; omega)) _ (St.begin (Γ := [_]) hS239)) rfl (after_M (Γ1 := [_]) hS239 (fun v241 G241 w241 hv241 hS241 => ?_))
            clear hS239
            obtain ⟨rfl, rfl⟩ := hv241
            have hS242 : St _ _ [dk kd da dc l p.length s, .blk kr (.cells #[.slice ra ((p ++ l ++ q).length) rc_, .int .i64 ((p.length : Nat) : Int), .int .i64 (((p.length + l.length) : Nat) : Int), .int .i64 (((p.length + s) : Nat) : Int)] 85), .ow 5 1 ra ((p ++ l ++ q).length) rc_ (bv (p ++ l ++ q)), vk kv kr av vc rs2, wk kw kd ad cap rs, .ow 3 1 ad215 rs.length cp215 (iv (nums rs)), .fz g, .blk b41 (.cells #[.int .i64 x40.k, .int .i64 x40.i, .int .i64 x40.n, .slice x40.ad x40.b.length x40.cap] 78)] _ := hS241; clear hS241
            refine hK _ _ ⟨⟨trivial, fun h => absurd h (by decide)⟩, fun _ _ => by first | exact q_load1 rfl (by kernel_rfl) (hS242.cell (i := 1) rfl rfl)⟩ ?_; clear hK K
            refine o_pure (i := 33) (fun j w => ⟨(fun j w => ⟨(fun _ _ => trivial) j w, fun _ h => h⟩) j w, fun _ h => h⟩) rfl rfl (by kernel_rfl) (goes1 rfl rfl (decide_eq_false (by simp))) (QOk.then (QOk.then (QOk.inBlock (QOk.then (QOk.then (QOk.inBlock (QOk.then QOk.body))))))) (fun w => q_neq rfl rfl) ?_
            refine o_pure (i := 34) (fun j w => ⟨(fun j w => ⟨(fun _ _ => trivial) j w, fun _ h => h⟩) j w, fun _ h => h⟩) rfl rfl (by kernel_rfl) (goes0 rfl) (QOk.then (QOk.then (QOk.inBlock (QOk.then (QOk.then (QOk.inBlock (QOk.then QOk.body))))))) (fun w => q_pickF rfl (decide_eq_false (by simp)) rfl) ?_
            refine o_pure (i := 35) (fun j w => ⟨(fun j w => ⟨(fun _ _ => trivial) j w, fun _ h => h⟩) j w, fun _ h => h⟩) rfl rfl (by kernel_rfl) (goes0 rfl) (QOk.then (QOk.then (QOk.inBlock (QOk.then (QOk.then (QOk.inBlock (QOk.then QOk.body))))))) (fun w => q_moveB rfl) ?_
            refine o_pure (i := 36) (fun j w => ⟨(fun j w => ⟨(fun _ _ => trivial) j w, fun _ h => h⟩) j w, fun _ h => h⟩) rfl rfl (by kernel_rfl) (goes1 rfl rfl (decide_eq_false (by simp))) (QOk.then (QOk.then (QOk.inBlock (QOk.then (QOk.then (QOk.inBlock (QOk.then QOk.body))))))) (fun w => q_moveP rfl) ?_
            refine o_pure (i := 38) (fun j w => ⟨(fun j w => ⟨(fun _ _ => trivial) j w, fun _ h => h⟩) j w, fun _ h => h⟩) rfl rfl (by kernel_rfl) (goes1 rfl rfl (decide_eq_false (by simp))) (QOk.then (QOk.then (QOk.inBlock (QOk.then (QOk.then (QOk.inBlock (QOk.then QOk.body))))))) (fun w => q_moveP rfl) ?_
            refine o_pure (i := 39) (fun j w => ⟨(fun j w => ⟨(fun _ _ => trivial) j w, fun _ h => h⟩) j w, fun _ h => h⟩) rfl rfl (by kernel_rfl) (goes1 rfl rfl (decide_eq_false (by simp))) (QOk.then (QOk.then (QOk.inBlock (QOk.then (QOk.then (QOk.inBlock (QOk.then QOk.body))))))) (fun w => q_nilCheck rfl) ?_
            refine o_pure (i := 40) (fun j w => ⟨(fun j w => ⟨(fun _ _ => trivial) j w, fun _ h => h⟩) j w, fun _ h => h⟩) rfl rfl (by kernel_rfl) (goes1 rfl rfl (decide_eq_false (by simp))) (QOk.then (QOk.then (QOk.inBlock (QOk.then (QOk.then (QOk.inBlock (QOk.then QOk.body))))))) (fun w => q_fieldAddr (ft := 3) (o := 3) rfl (by kernel_rfl)) ?_
            refine o_held (i := 41) [42, 43] (fun j w => ⟨(fun j w => ⟨(fun _ _ => trivial) j w, fun _ h => h⟩) j w, fun _ h => h⟩) rfl rfl (by kernel_rfl) (goes1 rfl rfl (decide_eq_false (by simp))) (QOk.then (QOk.then (QOk.inBlock (QOk.then (QOk.then (QOk.inBlock (QOk.then QOk.body))))))) (q_load1 rfl (by kernel_rfl) (hS242.cell (i := 1) rfl rfl)) ?_
            refine o_eff (i := 37) (by kernel_rfl) rfl (goes1 rfl rfl (decide_eq_false (by simp))) (fun K hK => ?_)
            refine e_call (by kernel_rfl) (dSafe_ok _ _ _ _ _ _ (bytes_mid hI.2.2.2.1) (by first | omega | (simp; omega)) (by first | omega | (simp; omega)) _ (St.begin (Γ := [_]) hS242)) rfl (after_M (Γ1 := [_]) hS242 (fun v244 G244 w244 hv244 hS244 => ?_))
            clear hS242
            obtain ⟨rfl, rfl⟩ := hv244
            have hS245 : St _ _ [dk kd da dc l p.length s, .blk kr (.cells #[.slice ra ((p ++ l ++ q).length) rc_, .int .i64 ((p.length : Nat) : Int), .int .i64 (((p.length + l.length) : Nat) : Int), .int .i64 (((p.length + s) : Nat) : Int)] 85), .ow 5 1 ra ((p ++ l ++ q).length) rc_ (bv (p ++ l ++ q)), vk kv kr av vc rs2, wk kw kd ad cap rs, .ow 3 1 ad215 rs.length cp215 (iv (nums rs)), .fz g, .blk b41 (.cells #[.int .i64 x40.k, .int .i64 x40.i, .int .i64 x40.n, .slice x40.ad x40.b.length x40.cap] 78)] _ := hS244; clear hS244
            refine hK _ _ ⟨⟨⟨trivial, fun h => absurd h (by decide)⟩, fun h => absurd h (by decide)⟩, fun _ _ => by first | exact q_load1 rfl (by kernel_rfl) (hS245.cell (i := 1) rfl rfl)⟩ ?_; clear hK K
            refine o_pure (i := 42) (fun j w => ⟨(fun j w => ⟨(fun j w => ⟨(fun _ _ => trivial) j w, fun _ h => h⟩) j w, fun _ h => h⟩) j w, fun _ h => h⟩) rfl rfl (by kernel_rfl) (goes1 rfl rfl (decide_eq_false (by simp))) (QOk.then (QOk.then (QOk.inBlock (QOk.then (QOk.then (QOk.inBlock (QOk.then QOk.body))))))) (fun w => q_neq rfl rfl) ?_
            refine o_pure (i := 43) (fun j w => ⟨(fun j w => ⟨(fun j w => ⟨(fun _ _ => trivial) j w, fun _ h => h⟩) j w, fun _ h => h⟩) j w, fun _ h => h⟩) rfl rfl (by kernel_rfl) (goes0 rfl) (QOk.then (QOk.then (QOk.inBlock (QOk.then (QOk.then (QOk.inBlock (QOk.then QOk.body))))))) (fun w => q_pickF rfl (decide_eq_false (by simp)) rfl) ?_
            refine o_done (by kernel_rfl) ?_
            refine hK220 _ _ ?_
            refine c_condF rfl (decide_eq_false (by simp)) ?_
            refine wp_skip ?_
            refine hK219 _ _ ?_
            refine wp_seq_k (fun K247 hK247 => ?_)
            refine wp_seq_k (fun K248 hK248 => ?_)
            refine wp_region_lit ?_
            refine l_q rfl rfl (q_assignI rfl) ?_
            refine l_nil ?_
            refine hK248 _ _ ?_
            refine wp_block ?_
            have hS249 := hS245.fr2; clear hS245
            have hS250 := hS249.fr2; clear hS249
            have hS251 := rd_close hS250; clear hS250
            have hS252 := hS251.fr6; clear hS251
            have hS253 := hS252.fr6; clear hS252
            have hS254 := hS253.fr2; clear hS253
            have hS255 := hS254.fr4; clear hS254
            have hS256 := hS255.fr4; clear hS255
            have hS257 := hS256.fr5; clear hS256
            have hS258 : St _ _ [wk kw kd ad cap rs, dk kd da dc l p.length s, vk kv kr av vc rs2, rdk kr ra rc_ p l q s, .fz g, .blk b41 (.cells #[.int .i64 x40.k, .int .i64 x40.i, .int .i64 x40.n, .slice x40.ad x40.b.length x40.cap] 78)] _ := hS257.only 6; clear hS257
            refine c_loop (τ := Nat) [(2, 2), (17, 19), (197, 234)] (fun x => (fun (k : Nat) => [(17, .int .i64 ((k : Nat) : Int))]) x) (fun x w' => (fun (k : Nat) => St w (fun _ => False) [wk kw kd ad cap rs, dk kd da dc l p.length s, vk kv kr av vc rs2, rdk kr ra rc_ p l q s, .fz g, .blk b41 (.cells #[.int .i64 x40.k, .int .i64 x40.i, .int .i64 x40.n, .slice x40.ad x40.b.length x40.cap] 78)] w' ∧ k ≤ rs2.length) x) (fun x => (fun (k : Nat) => rs2.length - k) x) (0) ?_ (by repeat' (first | exact trivial | refine ⟨by first | rfl | exact int_succ _ | assumption, ?_⟩)) (fun k j259 w259 hJ259 K259 hK259 => ?_)
            ·
              exact ⟨hS258, Nat.zero_le _⟩
            ·
              obtain ⟨hS259, hk⟩ := hJ259
              try dsimp only at hS259 hk ⊢
              refine wp_seq_k (fun K260 hK260 => ?_)
              refine wp_seq_k (fun K261 hK261 => ?_)
              refine wp_region_lit ?_
              refine l_q rfl rfl (q_moveI rfl) ?_
              refine l_q rfl rfl (q_moveP rfl) ?_
              refine l_q rfl rfl (q_nilCheck rfl) ?_
              refine l_q rfl rfl (q_fieldAddr (ft := 92) (o := 1) rfl (by kernel_rfl)) ?_
              have hS262 := hS259.fr2; clear hS259
              have hS263 := vk_open hS262; clear hS262
              refine l_q rfl rfl (q_load1 rfl (by kernel_rfl) (hS263.cell (i := 0) rfl rfl)) ?_
              refine l_q rfl rfl (q_lenSl (e := 96) rfl (by kernel_rfl)) ?_
              refine l_q rfl rfl (q_lss rfl rfl) ?_
              refine l_nil ?_
              refine hK261 _ _ ?_
              refine c_cond rfl (fun hc264 => ?_) (fun hc264 => ?_)
              ·
                have hc264b := hc264
                try simp only [decide_eq_true_eq, decide_eq_false_iff_not, Bool.not_eq_true', Bool.not_eq_false', Bool.and_eq_true, Bool.or_eq_true, Int.not_lt, Int.not_le, ne_eq, Decidable.not_not] at hc264
                refine wp_skip ?_
                refine hK260 _ _ ?_
                refine wp_seq_k (fun K265 hK265 => ?_)
                refine wp_block ?_
                refine wp_seq_k (fun K266 hK266 => ?_)
                refine wp_region_lit ?_
                refine l_q rfl rfl (q_moveP rfl) ?_
                refine l_q rfl rfl (q_moveP rfl) ?_
                refine l_q rfl rfl (q_nilCheck rfl) ?_
                refine l_q rfl rfl (q_fieldAddr (ft := 92) (o := 1) rfl (by kernel_rfl)) ?_
                refine l_q rfl rfl (q_load1 rfl (by kernel_rfl) (hS263.cell (i := 0) rfl rfl)) ?_
                refine l_q rfl rfl (q_moveI rfl) ?_
                refine l_q rfl rfl (q_ixG (e := 96) (m := 2) (j := k) rfl rfl (by kernel_rfl) (by kernel_rfl) (by first | rfl | omega) (by omega) (hS263.owG (i := 1) rfl) (by rw [rows_len (c := rc) (m := 2) (fun _ => rfl)]; first | omega | (simp only [List.length_append, List.length_map, List.length_cons, List.length_nil, List.length_take, List.length_drop, List.length_set] <;> omega))) ?_
                refine l_q rfl rfl (q_fieldG (ft := 3) (o := 0) rfl (by kernel_rfl)) ?_
                obtain ⟨x267, hx267⟩ : ∃ x, (rs2)[k]? = some x := ⟨_, List.getElem?_eq_getElem (by first | omega | (simp only [List.length_append, List.length_map, List.length_cons, List.length_nil, List.length_take, List.length_drop, List.length_set] <;> omega) | (simp <;> omega))⟩
                have hr_x267 := hI.2.1 x267 (List.mem_of_getElem? hx267)
                refine l_q rfl rfl (q_load1 rfl (by kernel_rfl) (SlG.cell (hS263.owG (i := 1) rfl) (Gle.refl _) (row_at hx267 (c := rc) (m := 2) (fun _ => rfl) (j := 0) rfl))) ?_
                obtain ⟨hrE, hrB⟩ := play_rd hIw hIab hx267
                refine l_e rfl (fun K hK => ?_)
                have hS269 := hS263.fr5; clear hS263
                have hS270 := hS269.fr3; clear hS269
                refine e_call (by kernel_rfl) (wRead_ok _ _ _ _ _ _ (by first | omega | (simp only [List.length_append, List.length_map, List.length_cons, List.length_nil, List.length_take, List.length_drop, List.length_set] <;> omega)) hI.1 _ _ (St.begin (Γ := [_, _]) hS270)) rfl (after_M (Γ1 := [_, _]) hS270 (fun v268 G268 w268 hv268 hS268 => ?_))
                clear hS270
                obtain ⟨ad268, cp268, rfl, rfl⟩ := hv268
                have hS271 : St _ _ [.ow 5 1 ad268 ((rdB (List.map Rc.abs rs) ((x267.n : Nat) : Int)).length) cp268 (bv (rdB (List.map Rc.abs rs) ((x267.n : Nat) : Int))), wk kw kd ad cap rs, .fz g, .blk kv (.cells #[.pointer (some ⟨kr, 0, none⟩), .slice av rs2.length vc] 94), .ow 96 2 av rs2.length vc (List.flatMap rc rs2), dk kd da dc l p.length s, rdk kr ra rc_ p l q s, .blk b41 (.cells #[.int .i64 x40.k, .int .i64 x40.i, .int .i64 x40.n, .slice x40.ad x40.b.length x40.cap] 78)] _ := hS268; clear hS268
                refine hK _ _ ?_; clear hK K
                refine l_q rfl rfl (q_move rfl) ?_
                refine l_q rfl rfl (q_extract rfl rfl) ?_
                refine l_q rfl rfl (q_extract rfl rfl) ?_
                refine l_q rfl rfl (q_assignS rfl) ?_
                refine l_q rfl rfl (q_assignI rfl) ?_
                refine l_nil ?_
                refine hK266 _ _ ?_
                refine wp_seq_k (fun K272 hK272 => ?_)
                refine r_any (by kernel_rfl) hS271 (fun w273 hS273 => ?_)
                clear hS271
                refine o_pure (i := 0) (fun _ _ => trivial) rfl rfl (by kernel_rfl) (goes0 rfl) (QOk.then (QOk.inBlock (QOk.then (QOk.then (QOk.inBlock (QOk.then (QOk.inBlock (QOk.then (QOk.then (QOk.inBlock (QOk.then QOk.body))))))))))) (fun w => q_moveI rfl) ?_
                refine o_pure (i := 1) (fun _ _ => trivial) rfl rfl (by kernel_rfl) (goes0 rfl) (QOk.then (QOk.inBlock (QOk.then (QOk.then (QOk.inBlock (QOk.then (QOk.inBlock (QOk.then (QOk.then (QOk.inBlock (QOk.then QOk.body))))))))))) (fun w => q_neq rfl rfl) ?_
                refine o_pure (i := 2) (fun _ _ => trivial) rfl rfl (by kernel_rfl) (goes0 rfl) (QOk.then (QOk.inBlock (QOk.then (QOk.then (QOk.inBlock (QOk.then (QOk.inBlock (QOk.then (QOk.then (QOk.inBlock (QOk.then QOk.body))))))))))) (fun w => q_moveB rfl) ?_
                refine o_pure (i := 3) (fun _ _ => trivial) rfl rfl (by kernel_rfl) (goes1 rfl rfl (decide_eq_false (by rw [hrE]; simp))) (QOk.then (QOk.inBlock (QOk.then (QOk.then (QOk.inBlock (QOk.then (QOk.inBlock (QOk.then (QOk.then (QOk.inBlock (QOk.then QOk.body))))))))))) (fun w => q_moveS rfl) ?_
                refine o_held (i := 4) [14, 15] (fun _ _ => trivial) rfl rfl (by kernel_rfl) (goes1 rfl rfl (decide_eq_false (by rw [hrE]; simp))) (QOk.then (QOk.inBlock (QOk.then (QOk.then (QOk.inBlock (QOk.then (QOk.inBlock (QOk.then (QOk.then (QOk.inBlock (QOk.then QOk.body))))))))))) (q_convBS (l := (rdB (List.map Rc.abs rs) ((x267.n : Nat) : Int))) rfl (hS273.owG (i := 0) rfl) (by first | omega | (simp only [List.length_append, List.length_map, List.length_cons, List.length_nil, List.length_take, List.length_drop, List.length_set] <;> omega)) (by kernel_rfl) (by kernel_rfl)) ?_
                refine o_pure (i := 5) (fun j w => ⟨(fun _ _ => trivial) j w, fun _ h => h⟩) rfl rfl (by kernel_rfl) (goes1 rfl rfl (decide_eq_false (by rw [hrE]; simp))) (QOk.then (QOk.inBlock (QOk.then (QOk.then (QOk.inBlock (QOk.then (QOk.inBlock (QOk.then (QOk.then (QOk.inBlock (QOk.then QOk.body))))))))))) (fun w => q_moveP rfl) ?_
                refine o_pure (i := 6) (fun j w => ⟨(fun _ _ => trivial) j w, fun _ h => h⟩) rfl rfl (by kernel_rfl) (goes1 rfl rfl (decide_eq_false (by rw [hrE]; simp))) (QOk.then (QOk.inBlock (QOk.then (QOk.then (QOk.inBlock (QOk.then (QOk.inBlock (QOk.then (QOk.then (QOk.inBlock (QOk.then QOk.body))))))))))) (fun w => q_nilCheck rfl) ?_
                refine o_pure (i := 7) (fun j w => ⟨(fun _ _ => trivial) j w, fun _ h => h⟩) rfl rfl (by kernel_rfl) (goes1 rfl rfl (decide_eq_false (by rw [hrE]; simp))) (QOk.then (QOk.inBlock (QOk.then (QOk.then (QOk.inBlock (QOk.then (QOk.inBlock (QOk.then (QOk.then (QOk.inBlock (QOk.then QOk.body))))))))))) (fun w => q_fieldAddr (ft := 92) (o := 1) rfl (by kernel_rfl)) ?_
                refine o_held (i := 8) [10, 11, 12, 13, 14, 15] (fun j w => ⟨(fun _ _ => trivial) j w, fun _ h => h⟩) rfl rfl (by kernel_rfl) (goes1 rfl rfl (decide_eq_false (by rw [hrE]; simp))) (QOk.then (QOk.inBlock (QOk.then (QOk.then (QOk.inBlock (QOk.then (QOk.inBlock (QOk.then (QOk.then (QOk.inBlock (QOk.then QOk.body))))))))))) (q_load1 rfl (by kernel_rfl) (hS273.cell (i := 3) rfl rfl)) ?_
                refine o_pure (i := 9) (fun j w => ⟨(fun j w => ⟨(fun _ _ => trivial) j w, fun _ h => h⟩) j w, fun _ h => h⟩) rfl rfl (by kernel_rfl) (goes1 rfl rfl (decide_eq_false (by rw [hrE]; simp))) (QOk.then (QOk.inBlock (QOk.then (QOk.then (QOk.inBlock (QOk.then (QOk.inBlock (QOk.then (QOk.then (QOk.inBlock (QOk.then QOk.body))))))))))) (fun w => q_moveI rfl) ?_
                refine o_pure (i := 10) (fun j w => ⟨(fun j w => ⟨(fun _ _ => trivial) j w, fun _ h => h⟩) j w, fun _ h => h⟩) rfl rfl (by kernel_rfl) (goes1 rfl rfl (decide_eq_false (by rw [hrE]; simp))) (QOk.then (QOk.inBlock (QOk.then (QOk.then (QOk.inBlock (QOk.then (QOk.inBlock (QOk.then (QOk.then (QOk.inBlock (QOk.then QOk.body))))))))))) (fun w => q_ixG (e := 96) (m := 2) (j := k) rfl rfl (by kernel_rfl) (by kernel_rfl) (by first | rfl | omega) (by omega) (hS273.owG (i := 4) rfl) (by rw [rows_len (c := rc) (m := 2) (fun _ => rfl)]; first | omega | (simp only [List.length_append, List.length_map, List.length_cons, List.length_nil, List.length_take, List.length_drop, List.length_set] <;> omega))) ?_
                refine o_pure (i := 11) (fun j w => ⟨(fun j w => ⟨(fun _ _ => trivial) j w, fun _ h => h⟩) j w, fun _ h => h⟩) rfl rfl (by kernel_rfl) (goes1 rfl rfl (decide_eq_false (by rw [hrE]; simp))) (QOk.then (QOk.inBlock (QOk.then (QOk.then (QOk.inBlock (QOk.then (QOk.inBlock (QOk.then (QOk.then (QOk.inBlock (QOk.then QOk.body))))))))))) (fun w => q_fieldG (ft := 23) (o := 1) rfl (by kernel_rfl)) ?_
                refine o_held (i := 12) [13, 14, 15] (fun j w => ⟨(fun j w => ⟨(fun _ _ => trivial) j w, fun _ h => h⟩) j w, fun _ h => h⟩) rfl rfl (by kernel_rfl) (goes1 rfl rfl (decide_eq_false (by rw [hrE]; simp))) (QOk.then (QOk.inBlock (QOk.then (QOk.then (QOk.inBlock (QOk.then (QOk.inBlock (QOk.then (QOk.then (QOk.inBlock (QOk.then QOk.body))))))))))) (q_load1 rfl (by kernel_rfl) (SlG.cell (hS273.owG (i := 4) rfl) (Gle.refl _) (row_at hx267 (c := rc) (m := 2) (fun _ => rfl) (j := 1) rfl))) ?_
                refine o_held (i := 13) [14, 15] (fun j w => ⟨(fun j w => ⟨(fun j w => ⟨(fun _ _ => trivial) j w, fun _ h => h⟩) j w, fun _ h => h⟩) j w, fun _ h => h⟩) rfl rfl (by kernel_rfl) (goes1 rfl rfl (decide_eq_false (by rw [hrE]; simp))) (QOk.then (QOk.inBlock (QOk.then (QOk.then (QOk.inBlock (QOk.then (QOk.inBlock (QOk.then (QOk.then (QOk.inBlock (QOk.then QOk.body))))))))))) (q_convBS (l := x267.b) rfl ((hI.2.1 x267 (List.mem_of_getElem? hx267)).1.mono (hS273.fz (i := 2) rfl)) (by first | omega | (simp only [List.length_append, List.length_map, List.length_cons, List.length_nil, List.length_take, List.length_drop, List.length_set] <;> omega)) (by kernel_rfl) (by kernel_rfl)) ?_
                refine o_pure (i := 14) (fun j w => ⟨(fun j w => ⟨(fun j w => ⟨(fun j w => ⟨(fun _ _ => trivial) j w, fun _ h => h⟩) j w, fun _ h => h⟩) j w, fun _ h => h⟩) j w, fun _ h => h⟩) rfl rfl (by kernel_rfl) (goes1 rfl rfl (decide_eq_false (by rw [hrE]; simp))) (QOk.then (QOk.inBlock (QOk.then (QOk.then (QOk.inBlock (QOk.then (QOk.inBlock (QOk.then (QOk.then (QOk.inBlock (QOk.then QOk.body))))))))))) (fun w => q_str_neq (l := (rdB (List.map Rc.abs rs) ((x267.n : Nat) : Int))) (m := x267.b) rfl rfl (rdB_bytes hI.1 _) (hI.2.1 x267 (List.mem_of_getElem? hx267)).2.1) ?_
                refine o_pure (i := 15) (fun j w => ⟨(fun j w => ⟨(fun j w => ⟨(fun j w => ⟨(fun _ _ => trivial) j w, fun _ h => h⟩) j w, fun _ h => h⟩) j w, fun _ h => h⟩) j w, fun _ h => h⟩) rfl rfl (by kernel_rfl) (goes0 rfl) (QOk.then (QOk.inBlock (QOk.then (QOk.then (QOk.inBlock (QOk.then (QOk.inBlock (QOk.then (QOk.then (QOk.inBlock (QOk.then QOk.body))))))))))) (fun w => q_pickF rfl (decide_eq_false (by rw [hrE]; simp)) rfl) ?_
                refine o_done (by kernel_rfl) ?_
                refine hK272 _ _ ?_
                refine c_condF rfl (by rw [hrB]; simp) ?_
                refine wp_skip ?_
                refine hK265 _ _ ?_
                refine wp_region_lit ?_
                refine l_q rfl rfl (q_moveI rfl) ?_
                refine l_q rfl rfl (q_addx rfl rfl (by first | decide | omega) (by first | decide | omega)) ?_
                refine l_q rfl rfl (q_assignI rfl) ?_
                refine l_nil ?_
                have hS276 := hS273.fr4; clear hS273
                have hS277 := hS276.fr4; clear hS276
                have hS278 := vk_close hS277; clear hS277
                have hS279 := hS278.fr6; clear hS278
                have hS280 := hS279.fr4; clear hS279
                have hS281 := hS280.fr6; clear hS280
                have hS282 := hS281.fr3; clear hS281
                have hS283 := hS282.fr6; clear hS282
                have hS284 := hS283.fr6; clear hS283
                have hS285 : St _ _ [wk kw kd ad cap rs, dk kd da dc l p.length s, vk kv kr av vc rs2, rdk kr ra rc_ p l q s, .fz g, .blk b41 (.cells #[.int .i64 x40.k, .int .i64 x40.i, .int .i64 x40.n, .slice x40.ad x40.b.length x40.cap] 78)] _ := hS284.only 6; clear hS284
                refine hK259 _ _ (came ((k + 1)) (by repeat' (first | exact Agree.refl _ _ | refine Agree.up ?_ rfl | refine Agree.hav2 ?_ rfl | refine Agree.ups2 ?_ rfl)) (by repeat' (first | exact trivial | refine ⟨by first | rfl | exact int_succ _ | assumption, ?_⟩)) ?_)
                exact ⟨⟨hS285, (by show k + 1 ≤ rs2.length; omega)⟩, by (show rs2.length - (k + 1) < rs2.length - k); omega⟩
              ·
                have hc264b := hc264
                try simp only [decide_eq_true_eq, decide_eq_false_iff_not, Bool.not_eq_true', Bool.not_eq_false', Bool.and_eq_true, Bool.or_eq_true, Int.not_lt, Int.not_le, ne_eq, Decidable.not_not] at hc264
                refine wp_exit ?_
                refine hK247 _ _ ?_
                refine wp_seq_k (fun K286 hK286 => ?_)
                refine wp_region_lit ?_
                refine l_q rfl rfl (q_moveP rfl) ?_
                refine l_q rfl rfl (q_fieldAddr (ft := 3) (o := 2) rfl (by kernel_rfl)) ?_
                refine l_q rfl rfl (q_load1 rfl (by kernel_rfl) (hS263.cell (i := 6) rfl rfl)) ?_
                refine l_e rfl (fun K hK => ?_)
                have hS288 := hS263.fr5; clear hS263
                have hS289 := hS288.fr3; clear hS288
                refine e_call (by kernel_rfl) (wRead_ok _ _ _ _ _ _ (by first | omega | (simp only [List.length_append, List.length_map, List.length_cons, List.length_nil, List.length_take, List.length_drop, List.length_set] <;> omega)) hI.1 _ _ (St.begin (Γ := [_, _]) hS289)) rfl (after_M (Γ1 := [_, _]) hS289 (fun v287 G287 w287 hv287 hS287 => ?_))
                clear hS289
                obtain ⟨ad287, cp287, rfl, rfl⟩ := hv287
                have hS290 : St _ _ [.ow 5 1 ad287 ((rdB (List.map Rc.abs rs) x40.n).length) cp287 (bv (rdB (List.map Rc.abs rs) x40.n)), wk kw kd ad cap rs, .fz g, .blk kv (.cells #[.pointer (some ⟨kr, 0, none⟩), .slice av rs2.length vc] 94), .ow 96 2 av rs2.length vc (List.flatMap rc rs2), dk kd da dc l p.length s, rdk kr ra rc_ p l q s, .blk b41 (.cells #[.int .i64 x40.k, .int .i64 x40.i, .int .i64 x40.n, .slice x40.ad x40.b.length x40.cap] 78)] _ := hS287; clear hS287
                refine hK _ _ ?_; clear hK K
                refine l_q rfl rfl (q_move rfl) ?_
                refine l_q rfl rfl (q_extract rfl rfl) ?_
                refine l_q rfl rfl (q_extract rfl rfl) ?_
                refine l_q rfl rfl (q_assignS rfl) ?_
                refine l_q rfl rfl (q_assignI rfl) ?_
                refine l_nil ?_
                refine hK286 _ _ ?_
                refine wp_seq_k (fun K291 hK291 => ?_)
                refine wp_region_lit ?_
                refine l_q rfl rfl (q_moveI rfl) ?_
                refine l_q rfl rfl (q_eql rfl rfl) ?_
                refine l_q rfl rfl (q_moveP rfl) ?_
                refine l_q rfl rfl (q_fieldAddr (ft := 3) (o := 2) rfl (by kernel_rfl)) ?_
                refine l_q rfl rfl (q_load1 rfl (by kernel_rfl) (hS290.cell (i := 7) rfl rfl)) ?_
                refine l_e rfl (fun K hK => ?_)
                have hS293 := hS290.fr4; clear hS290
                have hS294 := hS293.fr4; clear hS293
                have hS295 := vk_close hS294; clear hS294
                refine e_call (by kernel_rfl) (vfind_ok _ _ _ _ rs2 x40.n (by first | omega | (simp only [List.length_append, List.length_map, List.length_cons, List.length_nil, List.length_take, List.length_drop, List.length_set] <;> omega)) _ (St.begin (Γ := [_]) hS295)) rfl (after_M (Γ1 := [_]) hS295 (fun v292 G292 w292 hv292 hS292 => ?_))
                clear hS295
                obtain ⟨rfl, rfl⟩ := hv292
                have hS296 : St _ _ [vk kv kr av vc rs2, .ow 5 1 ad287 ((rdB (List.map Rc.abs rs) x40.n).length) cp287 (bv (rdB (List.map Rc.abs rs) x40.n)), wk kw kd ad cap rs, .fz g, dk kd da dc l p.length s, rdk kr ra rc_ p l q s, .blk b41 (.cells #[.int .i64 x40.k, .int .i64 x40.i, .int .i64 x40.n, .slice x40.ad x40.b.length x40.cap] 78)] _ := hS292; clear hS292
                refine hK _ _ ?_; clear hK K
                refine l_q rfl rfl (q_geq rfl rfl) ?_
                refine l_q rfl rfl (q_bool_neq rfl rfl (by kernel_rfl)) ?_
                refine l_q rfl rfl (q_moveB rfl) ?_
                refine l_on rfl rfl (by rw [play_find hIab]; simp) ?_
                refine l_q rfl rfl (q_moveI rfl) ?_
                refine l_on rfl rfl (by rw [play_find hIab]; simp) ?_
                refine l_q rfl rfl (q_neq rfl rfl) ?_
                refine l_on rfl rfl (by rw [play_find hIab]; simp) ?_
                refine l_q rfl rfl (q_moveB rfl) ?_
                refine g_splitL (t := 253) rfl (fun hg298 => ?_) (fun hg298 => ?_)
                ·
                  have hg298b := hg298
                  try simp only [decide_eq_true_eq, decide_eq_false_iff_not, Bool.not_eq_true', Bool.not_eq_false', Bool.and_eq_true, Bool.or_eq_true, Int.not_lt, Int.not_le, ne_eq, Decidable.not_not] at hg298
                  have h71 := rdE_71 (R := rs.map Rc.abs) (z := x40.n) (by omega)
                  refine l_on rfl rfl hg298b ?_
                  refine l_q rfl rfl (q_moveI rfl) ?_
                  refine l_on rfl rfl hg298b ?_
                  refine l_q rfl rfl (q_neq rfl rfl) ?_
                  refine l_on rfl rfl (by rw [play_find hIab]; simp) ?_
                  refine l_q rfl rfl (q_pickT rfl hg298b rfl) ?_
                  refine l_q rfl rfl (q_pickF rfl (by rw [play_find hIab]; simp) rfl) ?_
                  refine l_nil ?_
                  refine hK291 _ _ ?_
                  refine c_condF rfl (by first | (rw [h71]; simp; done) | simp) ?_
                  refine wp_skip ?_
                  refine hK35 _ _ ?_
                  refine wp_region_lit ?_
                  refine l_q rfl rfl (q_moveI rfl) ?_
                  refine l_q rfl rfl (q_addx rfl rfl (by first | decide | omega) (by first | decide | omega)) ?_
                  refine l_q rfl rfl (q_assignI rfl) ?_
                  refine l_nil ?_
                  have hS300 := hS296.fr3; clear hS296
                  have hS301 := hS300.fr5; clear hS300
                  have hS302 := hS301.fr2; clear hS301
                  have hS303 := hS302.fr5; clear hS302
                  have hS304 := hS303.fr5; clear hS303
                  have hS305 : St _ _ [wk kw kd ad cap rs, dk kd da dc l p.length s, vk kv kr av vc rs2, rdk kr ra rc_ p l q s, .fz g] _ := hS304.only 5; clear hS304
                  refine hK30 _ _ (came (⟨kd, kw, kr, kv, da, ad, ra, av, dc, cap, rc_, vc, rs, rs2, p, l, q, s, g, (i + 1)⟩) (by repeat' (first | exact Agree.refl _ _ | refine Agree.up ?_ rfl | refine Agree.hav2 ?_ rfl | refine Agree.ups2 ?_ rfl)) (by repeat' (first | exact trivial | refine ⟨by first | rfl | exact int_succ _ | assumption, ?_⟩)) ?_)
                  exact ⟨⟨hS305, (by show i + 1 ≤ 40; omega), hI.more (by show _ ≤ 400 * (i + 1); omega)⟩, by (show 40 - (i + 1) < 40 - i); omega⟩
                ·
                  have hg298b := hg298
                  try simp only [decide_eq_true_eq, decide_eq_false_iff_not, Bool.not_eq_true', Bool.not_eq_false', Bool.and_eq_true, Bool.or_eq_true, Int.not_lt, Int.not_le, ne_eq, Decidable.not_not] at hg298
                  refine l_off rfl rfl rfl hg298b ?_
                  refine l_off rfl rfl rfl hg298b ?_
                  refine l_on rfl rfl (by rw [play_find hIab]; simp) ?_
                  refine l_q rfl rfl (q_pickF rfl hg298b rfl) ?_
                  refine l_q rfl rfl (q_pickF rfl (by rw [play_find hIab]; simp) rfl) ?_
                  refine l_nil ?_
                  refine hK291 _ _ ?_
                  refine c_condF rfl (by first | (rw [h71]; simp; done) | simp) ?_
                  refine wp_skip ?_
                  refine hK35 _ _ ?_
                  refine wp_region_lit ?_
                  refine l_q rfl rfl (q_moveI rfl) ?_
                  refine l_q rfl rfl (q_addx rfl rfl (by first | decide | omega) (by first | decide | omega)) ?_
                  refine l_q rfl rfl (q_assignI rfl) ?_
                  refine l_nil ?_
                  have hS307 := hS296.fr3; clear hS296
                  have hS308 := hS307.fr5; clear hS307
                  have hS309 := hS308.fr2; clear hS308
                  have hS310 := hS309.fr5; clear hS309
                  have hS311 := hS310.fr5; clear hS310
                  have hS312 : St _ _ [wk kw kd ad cap rs, dk kd da dc l p.length s, vk kv kr av vc rs2, rdk kr ra rc_ p l q s, .fz g] _ := hS311.only 5; clear hS311
                  refine hK30 _ _ (came (⟨kd, kw, kr, kv, da, ad, ra, av, dc, cap, rc_, vc, rs, rs2, p, l, q, s, g, (i + 1)⟩) (by repeat' (first | exact Agree.refl _ _ | refine Agree.up ?_ rfl | refine Agree.hav2 ?_ rfl | refine Agree.ups2 ?_ rfl)) (by repeat' (first | exact trivial | refine ⟨by first | rfl | exact int_succ _ | assumption, ?_⟩)) ?_)
                  exact ⟨⟨hS312, (by show i + 1 ≤ 40; omega), hI.more (by show _ ≤ 400 * (i + 1); omega)⟩, by (show 40 - (i + 1) < 40 - i); omega⟩
      ·
        have hc34b := hc34
        try simp only [decide_eq_true_eq, decide_eq_false_iff_not, Bool.not_eq_true', Bool.not_eq_false', Bool.and_eq_true, Bool.or_eq_true, Int.not_lt, Int.not_le, ne_eq, Decidable.not_not] at hc34
        refine wp_exit ?_
        refine hK24 _ _ ?_
        refine wp_seq_k (fun K313 hK313 => ?_)
        refine wp_region_lit ?_
        refine l_e rfl (fun K hK => ?_)
        refine e_call (by kernel_rfl) (alive7_ok _) rfl (after_R hS30 (fun v314 w314 hv314 hS314 => ?_))
        clear hS30
        obtain rfl := hv314
        refine hK _ _ ?_; clear hK K
        refine l_q rfl rfl (q_assignB rfl) ?_
        refine l_nil ?_
        refine hK313 _ _ ?_
        refine wp_ret ?_
        refine c_ret1 rfl rfl ?_
        exact ⟨_, rfl, rfl, hS314.drop⟩
    ·
      have hg33b := hg33
      try simp only [decide_eq_true_eq, decide_eq_false_iff_not, Bool.not_eq_true', Bool.not_eq_false', Bool.and_eq_true, Bool.or_eq_true, Int.not_lt, Int.not_le, ne_eq, Decidable.not_not] at hg33
      refine l_off rfl rfl rfl hg33b ?_
      refine l_off rfl rfl rfl hg33b ?_
      refine l_q rfl rfl (q_pickF rfl hg33b rfl) ?_
      refine l_nil ?_
      refine hK32 _ _ ?_
      refine c_condF rfl rfl ?_
      refine wp_exit ?_
      refine hK24 _ _ ?_
      refine wp_seq_k (fun K316 hK316 => ?_)
      refine wp_region_lit ?_
      refine l_e rfl (fun K hK => ?_)
      refine e_call (by kernel_rfl) (alive7_ok _) rfl (after_R hS30 (fun v317 w317 hv317 hS317 => ?_))
      clear hS30
      obtain rfl := hv317
      refine hK _ _ ?_; clear hK K
      refine l_q rfl rfl (q_assignB rfl) ?_
      refine l_nil ?_
      refine hK316 _ _ ?_
      refine wp_ret ?_
      refine c_ret1 rfl rfl ?_
      exact ⟨_, rfl, rfl, hS317.drop⟩

end Go.Proofs.Ytmbbkliekgiolaa
