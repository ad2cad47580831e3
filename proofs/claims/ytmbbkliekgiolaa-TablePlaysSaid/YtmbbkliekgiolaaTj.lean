/- law08: built; the plain law of ranges. -/
import Derived.Test.YtmbbkliekgiolaaTi
set_option linter.unusedVariables false
set_option linter.unusedSimpArgs false
namespace Go.Proofs.Ytmbbkliekgiolaa
open Go.RowKit
theorem told2_ok (es : List En) (l : List KV) (hl : es.map En.kv = l) (n : Nat) (hn : es.length = n) (hnl : n ≤ 100000) (al : Option Addr) (cl : Nat) (w : World) (hok : ∀ a ∈ es, EnG (hw w) a) (hG : SlG (hw w) al (List.flatMap en es)) :
    Calls Try.prog 16 #[.slice al n cl] w (PostN w fun v G => ∃ oa oc, v = .slice oa l.length oc ∧ G = [.ow 36 2 oa l.length oc (List.flatMap re l)]) := by
  subst hl; exact told_ok es n hn hnl al cl w hok hG
theorem Ac8Ok.mono {g g' : Gh} {a : Ac8} (h : Ac8Ok g a) (hg : Gle g g') : Ac8Ok g' a := ⟨h.1, ⟨h.2.1.1.mono hg, h.2.1.2⟩, ⟨h.2.2.1.mono hg, h.2.2.2⟩⟩
theorem fits_le {a : Ac8} (h : fits a = true) : a.kb.length ≤ 40 ∧ a.rb.length ≤ 40 := by
  unfold fits at h
  simpa using h
/-! ### ranges of one list -/
section
variable {L : List KV} {fr to mid : List Nat} {n : Nat}
theorem rangeB_full (hn : L.length ≤ n) : rangeB L fr to n = L.filter (pF fr to) := by
  rw [rangeB_pF, List.take_of_length_le (Nat.le_trans (List.length_filter_le _ _) hn)]
theorem pF_nil {c : KV} : pF [] [] c = true := by unfold pF; cases c.1 <;> simp [bl]
theorem rangeB_all (hn : L.length ≤ n) : rangeB L [] [] n = L := by
  rw [rangeB_full hn]; exact List.filter_eq_self.2 fun c _ => pF_nil
theorem srt_split (hs : Srt L) (k : List Nat) : ∃ X Y, L = X ++ Y ∧ (∀ c ∈ X, bl c.1 k = true) ∧ (∀ c ∈ Y, bl c.1 k = false) := by
  induction L with
  | nil => exact ⟨[], [], rfl, fun c h => (by cases h), fun c h => (by cases h)⟩
  | cons a L ih =>
    obtain ⟨h1, h2⟩ := List.pairwise_cons.1 hs
    cases ha : bl a.1 k with
    | true =>
      obtain ⟨X, Y, rfl, hX, hY⟩ := ih h2
      refine ⟨a :: X, Y, rfl, fun c hc => ?_, hY⟩
      cases hc with
      | head => exact ha
      | tail _ hc => exact hX c hc
    | false =>
      refine ⟨[], a :: L, rfl, fun c h => (by cases h), fun c hc => ?_⟩
      cases hc with
      | head => exact ha
      | tail _ hc =>
        cases hck : bl c.1 k with
        | false => rfl
        | true => rw [bl_trans (h1 c hc) hck] at ha; cases ha
theorem filt_ge {X Y : List KV} (hX : ∀ c ∈ X, bl c.1 fr = true) (hY : ∀ c ∈ Y, bl c.1 fr = false) : (X ++ Y).filter (pF fr []) = Y := by
  rw [List.filter_append, List.filter_eq_nil_iff.2 (fun c hc => by unfold pF; rw [hX c hc]; simp), List.nil_append]
  exact List.filter_eq_self.2 fun c hc => by unfold pF; rw [hY c hc]; simp
/-- Two ranges that meet are one. -/
theorem range_meet (hs : Srt L) (hm : mid ≠ []) (hle : bl mid fr = false) : L.filter (pF fr mid) ++ L.filter (pF mid []) = L.filter (pF fr []) := by
  obtain ⟨X, Y, rfl, hX, hY⟩ := srt_split hs mid
  have hs1 := (List.pairwise_append.1 hs).1
  obtain ⟨Z, U, rfl, hZ, hU⟩ := srt_split hs1 fr
  have hYf : ∀ c ∈ Y, bl c.1 fr = false := fun c hc => by
    cases h : bl c.1 fr with
    | false => rfl
    | true => have := bl_le h hle; rw [hY c hc] at this; cases this
  rw [filt_ge hX hY, List.append_assoc Z U Y, filt_ge (X := Z) (Y := U ++ Y) hZ (fun c hc => (List.mem_append.1 hc).elim (hU c) (hYf c))]
  have hZn : Z.filter (pF fr mid) = [] := List.filter_eq_nil_iff.2 fun c hc => by unfold pF; rw [hZ c hc]; simp
  have hYn : Y.filter (pF fr mid) = [] := List.filter_eq_nil_iff.2 fun c hc => by unfold pF; rw [hY c hc]; simp [hm]
  have hUn : U.filter (pF fr mid) = U := List.filter_eq_self.2 fun c hc => by unfold pF; rw [hU c hc, hX c (List.mem_append_right _ hc)]; simp
  rw [List.filter_append, List.filter_append, hZn, hUn, hYn]
  simp
theorem range_tail (hs : Srt L) : L.drop (L.length - (L.filter (pF fr [])).length) = L.filter (pF fr []) := by
  obtain ⟨X, Y, rfl, hX, hY⟩ := srt_split hs fr
  rw [filt_ge hX hY, List.length_append, Nat.add_sub_cancel, List.drop_left' rfl]
theorem range_at (hs : Srt L) {i : Nat} {c : KV} (hc : L[i]? = some c) : (!bl c.1 fr) = decide (L.length - (L.filter (pF fr [])).length ≤ i) := by
  obtain ⟨X, Y, rfl, hX, hY⟩ := srt_split hs fr
  rw [filt_ge hX hY, List.length_append, Nat.add_sub_cancel]
  rcases Nat.lt_or_ge i X.length with hi | hi
  · rw [List.getElem?_append_left hi] at hc
    rw [hX c (List.mem_of_getElem? hc), decide_eq_false (by omega)]; rfl
  · rw [List.getElem?_append_right hi] at hc
    rw [hY c (List.mem_of_getElem? hc), decide_eq_true hi]; rfl
theorem get_at (hs : Srt L) {i : Nat} {c : KV} (hc : L[i]? = some c) : getA L c.1 = some c.2 :=
  find_at hc rfl fun j hj q hq => bl_ne (srt_mid hs hj hq hc)
end
attribute [local irreducible] Oper.wp Sem.run Code.wp wpList wpAnyO callFunc execOp Calls
attribute [local irreducible] cmpL putA getA dropA lastB ent inB rangeB pF fits

set_option maxHeartbeats 1000000 in
set_option maxRecDepth 100000 in
theorem built_ok (S : List Ac8) (sa : Option Addr) (sc : Nat) (w : World) (hSG : SlG (hw w) sa (List.flatMap ac8 S)) (hSo : ∀ a ∈ S, Ac8Ok (hw w) a) : Calls Try.prog 15 #[.slice sa S.length sc] w (PostN w fun v G => ∃ k ad cap ps g, v = pV k ∧ G = [tb k ad cap ps, .fz g] ∧ TOk g ps ∧ (flat ps).length ≤ 150) := by
  have hS := St.start w
  refine c_enter Try.func15 rfl rfl rfl ?_
  refine wp_seq_k (fun K1 hK1 => ?_)
  refine wp_region_lit ?_
  refine l_q rfl rfl (q_assignP rfl) ?_
  refine l_nil ?_
  refine hK1 _ _ ?_
  refine wp_seq_k (fun K2 hK2 => ?_)
  refine wp_region_lit ?_
  refine l_e rfl (fun K hK => ?_)
  have hS4 := hS.fz0; clear hS
  refine e_call (by kernel_rfl) (tnew_ok _) rfl (after_N hS4 (fun v3 G3 w3 hv3 hS3 => ?_))
  clear hS4
  obtain ⟨k3, rfl, rfl⟩ := hv3
  have hS5 : St _ _ [tb k3 none 0 ([] : List Pg), .fz (fun _ => none)] _ := hS3; clear hS3
  have hT3 : TOk (fun _ => none) [] := TOk.nil
  have hfl3 : (flat ([] : List Pg)).length ≤ 0 := Nat.le_refl _
  refine hK _ _ ?_; clear hK K
  refine l_q rfl rfl (q_assignP rfl) ?_
  refine l_nil ?_
  refine hK2 _ _ ?_
  refine wp_seq_k (fun K6 hK6 => ?_)
  refine wp_seq_k (fun K7 hK7 => ?_)
  refine wp_region_lit ?_
  refine l_q rfl rfl (q_assignI rfl) ?_
  refine l_nil ?_
  refine hK7 _ _ ?_
  refine wp_block ?_
  refine c_loop (τ := Nat × (Option Addr) × Nat × (List Pg) × Gh) [(4, 6), (8, 45)] (fun x => (fun (i : Nat) (ad : Option Addr) (cap : Nat) (ps : List Pg) (g : Gh) => [(4, .int .i64 ((i : Nat) : Int))]) x.1 x.2.1 x.2.2.1 x.2.2.2.1 x.2.2.2.2) (fun x w' => (fun (i : Nat) (ad : Option Addr) (cap : Nat) (ps : List Pg) (g : Gh) => St w (fun _ => False) [tb k3 ad cap ps, .fz g] w' ∧ i ≤ S.length ∧ i ≤ 150 ∧ TOk g ps ∧ (flat ps).length ≤ i) x.1 x.2.1 x.2.2.1 x.2.2.2.1 x.2.2.2.2) (fun x => (fun (i : Nat) (ad : Option Addr) (cap : Nat) (ps : List Pg) (g : Gh) => S.length - i) x.1 x.2.1 x.2.2.1 x.2.2.2.1 x.2.2.2.2) (⟨0, none, 0, [], (fun _ => none)⟩) ?_ (by repeat' (first | exact trivial | refine ⟨by first | rfl | exact int_succ _ | assumption, ?_⟩)) (fun x8 j8 w8 hJ8 K8 hK8 => ?_)
  ·
    exact ⟨hS5, Nat.zero_le _, Nat.zero_le _, TOk.nil, Nat.le_refl _⟩
  ·
    obtain ⟨i, ad, cap, ps, g⟩ := x8
    obtain ⟨hS8, hi, hi2, hTl, hfl⟩ := hJ8
    try dsimp only at hS8 hi hi2 hTl hfl ⊢
    refine wp_seq_k (fun K9 hK9 => ?_)
    refine wp_seq_k (fun K10 hK10 => ?_)
    refine wp_region_lit ?_
    refine l_q rfl rfl (q_moveI rfl) ?_
    refine l_q rfl rfl (q_moveS rfl) ?_
    refine l_q rfl rfl (q_lenSl (e := 67) rfl (by kernel_rfl)) ?_
    refine l_q rfl rfl (q_lss rfl rfl) ?_
    refine l_q rfl rfl (q_moveB rfl) ?_
    refine g_splitL (t := 12) rfl (fun hg11 => ?_) (fun hg11 => ?_)
    ·
      have hg11b := hg11
      try simp only [decide_eq_true_eq, decide_eq_false_iff_not, Bool.not_eq_true', Bool.not_eq_false', Bool.and_eq_true, Bool.or_eq_true, Int.not_lt, Int.not_le, ne_eq, Decidable.not_not] at hg11
      refine l_on rfl rfl hg11b ?_
      refine l_q rfl rfl (q_moveI rfl) ?_
      refine l_on rfl rfl hg11b ?_
      refine l_q rfl rfl (q_lss rfl rfl) ?_
      refine l_q rfl rfl (q_pickT rfl hg11b rfl) ?_
      refine l_nil ?_
      refine hK10 _ _ ?_
      refine c_cond rfl (fun hc12 => ?_) (fun hc12 => ?_)
      ·
        have hc12b := hc12
        try simp only [decide_eq_true_eq, decide_eq_false_iff_not, Bool.not_eq_true', Bool.not_eq_false', Bool.and_eq_true, Bool.or_eq_true, Int.not_lt, Int.not_le, ne_eq, Decidable.not_not] at hc12
        refine wp_skip ?_
        refine hK9 _ _ ?_
        refine wp_seq_k (fun K13 hK13 => ?_)
        refine wp_block ?_
        refine wp_seq_k (fun K14 hK14 => ?_)
        refine wp_region_lit ?_
        refine l_q rfl rfl (q_moveS rfl) ?_
        refine l_q rfl rfl (q_moveI rfl) ?_
        refine l_q rfl rfl (q_ixG (e := 67) (m := 3) (j := i) rfl rfl (by kernel_rfl) (by kernel_rfl) (by first | rfl | omega) (by omega) hSG (by rw [rows_len (c := ac8) (m := 3) (fun _ => rfl)]; first | omega | (simp only [List.length_append, List.length_map, List.length_cons, List.length_nil, List.length_take, List.length_drop, List.length_set] <;> omega))) ?_
        obtain ⟨x15, hx15⟩ : ∃ x, (S)[i]? = some x := ⟨_, List.getElem?_eq_getElem (by first | omega | (simp only [List.length_append, List.length_map, List.length_cons, List.length_nil, List.length_take, List.length_drop, List.length_set] <;> omega) | (simp <;> omega))⟩
        have hkr_x15 := (hSo x15 (List.mem_of_getElem? hx15)).1
        refine l_q rfl rfl (q_loadGA (m := 3) rfl (by kernel_rfl) (by kernel_rfl) (hSG.mono hS8.base) (row_take hx15 (c := ac8) (m := 3) (fun _ => rfl)) rfl (by decide)) ?_
        refine l_e rfl (fun K hK => ?_)
        refine e_alloc (zv := .agg #[.int .i64 0, .slice none 0 0, .slice none 0 0]) hS8 (by kernel_rfl) (fun b16 w16 (hS16 : St _ _ [.blk b16 (.cells #[.int .i64 (0 : Int), .slice none 0 0, .slice none 0 0] 67), tb k3 ad cap ps, .fz g] _) => ?_)
        clear hS8
        refine hK _ _ ?_; clear hK K
        refine l_e rfl (fun K hK => ?_)
        refine e_storeA hS16 rfl rfl (by kernel_rfl) (by repeat' (first | exact trivial | refine ⟨by first | rfl | assumption | exact one_if (by assumption), ?_⟩)) (i := 0) rfl rfl (fun w17 (hS17 : St _ _ [.blk b16 (.cells #[.int .i64 x15.k, .slice x15.ka x15.kb.length x15.kc, .slice x15.ra x15.rb.length x15.rc] 67), tb k3 ad cap ps, .fz g] _) => ?_)
        clear hS16
        refine hK _ _ ?_; clear hK K
        refine l_nil ?_
        refine hK14 _ _ ?_
        refine wp_seq_k (fun K18 hK18 => ?_)
        refine wp_region_lit ?_
        refine l_q rfl rfl (q_loadA (m := 3) rfl (by kernel_rfl) (by kernel_rfl) (hS17.blk (i := 0) rfl) rfl rfl) ?_
        refine l_e rfl (fun K hK => ?_)
        refine e_call (by kernel_rfl) (fits_ok x15 _) rfl (after_R hS17 (fun v19 w19 hv19 hS19 => ?_))
        clear hS17
        obtain rfl := hv19
        refine hK _ _ ?_; clear hK K
        refine l_q rfl rfl (q_assignB rfl) ?_
        refine l_nil ?_
        refine hK18 _ _ ?_
        refine wp_seq_k (fun K20 hK20 => ?_)
        refine wp_seq_k (fun K21 hK21 => ?_)
        refine wp_region_lit ?_
        refine l_q rfl rfl (q_moveB rfl) ?_
        refine l_q rfl rfl (q_moveB rfl) ?_
        refine g_splitL (t := 25) rfl (fun hg22 => ?_) (fun hg22 => ?_)
        ·
          have hg22b := hg22
          try simp only [decide_eq_true_eq, decide_eq_false_iff_not, Bool.not_eq_true', Bool.not_eq_false', Bool.and_eq_true, Bool.or_eq_true, Int.not_lt, Int.not_le, ne_eq, Decidable.not_not] at hg22
          obtain ⟨hk40, hr40⟩ := fits_le hg22
          refine l_on rfl rfl hg22b ?_
          refine l_q rfl rfl (q_fieldAddr (ft := 3) (o := 0) rfl (by kernel_rfl)) ?_
          refine l_on rfl rfl hg22b ?_
          refine l_q rfl rfl (q_load1 rfl (by kernel_rfl) (hS19.cell (i := 0) rfl rfl)) ?_
          refine l_on rfl rfl hg22b ?_
          refine l_q rfl rfl (q_eql rfl rfl) ?_
          refine l_q rfl rfl (q_pickT rfl hg22b rfl) ?_
          refine l_nil ?_
          refine hK21 _ _ ?_
          refine c_cond rfl (fun hc23 => ?_) (fun hc23 => ?_)
          ·
            have hc23b := hc23
            try simp only [decide_eq_true_eq, decide_eq_false_iff_not, Bool.not_eq_true', Bool.not_eq_false', Bool.and_eq_true, Bool.or_eq_true, Int.not_lt, Int.not_le, ne_eq, Decidable.not_not] at hc23
            refine wp_region_lit ?_
            refine l_q rfl rfl (q_moveP rfl) ?_
            refine l_q rfl rfl (q_fieldAddr (ft := 23) (o := 1) rfl (by kernel_rfl)) ?_
            refine l_q rfl rfl (q_load1 rfl (by kernel_rfl) (hS19.cell (i := 0) rfl rfl)) ?_
            refine l_q rfl rfl (q_fieldAddr (ft := 23) (o := 2) rfl (by kernel_rfl)) ?_
            refine l_q rfl rfl (q_load1 rfl (by kernel_rfl) (hS19.cell (i := 0) rfl rfl)) ?_
            refine l_e rfl (fun K hK => ?_)
            have hS25 := hS19.fr2; clear hS19
            have hS26 := hS25.fr2; clear hS25
            refine e_call (by kernel_rfl) (put_ok k3 _ _ ps _ hTl (by first | omega | (simp only [List.length_append, List.length_map, List.length_cons, List.length_nil, List.length_take, List.length_drop, List.length_set] <;> omega)) x15.kb x15.rb (hSo x15 (List.mem_of_getElem? hx15)).2.1.2 (hSo x15 (List.mem_of_getElem? hx15)).2.2.2 (by first | omega | (simp only [List.length_append, List.length_map, List.length_cons, List.length_nil, List.length_take, List.length_drop, List.length_set] <;> omega)) (by first | omega | (simp only [List.length_append, List.length_map, List.length_cons, List.length_nil, List.length_take, List.length_drop, List.length_set] <;> omega)) x15.kb.length x15.rb.length (by first | omega | (simp only [List.length_append, List.length_map, List.length_cons, List.length_nil, List.length_take, List.length_drop, List.length_set] <;> omega)) (by first | omega | (simp only [List.length_append, List.length_map, List.length_cons, List.length_nil, List.length_take, List.length_drop, List.length_set] <;> omega)) _ _ _ _ _ _ (hSo x15 (List.mem_of_getElem? hx15)).2.1.1 (hSo x15 (List.mem_of_getElem? hx15)).2.2.1 _ (St.rogB (Γ1 := [_, _]) hS26) (St.rogB (Γ1 := [_, _]) hS26) (St.begin (Γ := [_, _]) hS26)) rfl (after_M (Γ1 := [_, _]) hS26 (fun v24 G24 w24 hv24 hS24 => ?_))
            clear hS26
            obtain ⟨ad24, cp24, ps24, g24, oa24, on24, oc24, rfl, rfl, hle24, hT24, hab24, hold24⟩ := hv24
            have hS27 : St _ _ [tb k3 ad24 cp24 ps24, .fz g24, .blk b16 (.cells #[.int .i64 x15.k, .slice x15.ka x15.kb.length x15.kc, .slice x15.ra x15.rb.length x15.rc] 67)] _ := hS24; clear hS24
            have hfl24 := flat_put hab24
            have hon24 := hold24.2.2.2
            have hoe24 := hold24.1
            refine hK _ _ ?_; clear hK K
            refine l_nil ?_
            refine hK20 _ _ ?_
            refine wp_seq_k (fun K28 hK28 => ?_)
            refine wp_region_lit ?_
            refine l_q rfl rfl (q_moveB rfl) ?_
            refine l_q rfl rfl (q_moveB rfl) ?_
            refine l_on rfl rfl hg22b ?_
            refine l_q rfl rfl (q_fieldAddr (ft := 3) (o := 0) rfl (by kernel_rfl)) ?_
            refine l_on rfl rfl hg22b ?_
            refine l_q rfl rfl (q_load1 rfl (by kernel_rfl) (hS27.cell (i := 2) rfl rfl)) ?_
            refine l_on rfl rfl hg22b ?_
            refine l_q rfl rfl (q_eql rfl rfl) ?_
            refine l_q rfl rfl (q_pickT rfl hg22b rfl) ?_
            refine l_nil ?_
            refine hK28 _ _ ?_
            refine c_cond rfl (fun hc29 => ?_) (fun hc29 => ?_)
            ·
              have hc29b := hc29
              try simp only [decide_eq_true_eq, decide_eq_false_iff_not, Bool.not_eq_true', Bool.not_eq_false', Bool.and_eq_true, Bool.or_eq_true, Int.not_lt, Int.not_le, ne_eq, Decidable.not_not] at hc29
              refine wp_region_lit ?_
              refine l_q rfl rfl (q_moveP rfl) ?_
              refine l_q rfl rfl (q_fieldAddr (ft := 23) (o := 1) rfl (by kernel_rfl)) ?_
              refine l_q rfl rfl (q_load1 rfl (by kernel_rfl) (hS27.cell (i := 2) rfl rfl)) ?_
              refine l_e rfl (fun K hK => ?_)
              refine e_call (by kernel_rfl) (drop_ok k3 _ _ ps24 _ hT24 (by first | omega | (simp only [List.length_append, List.length_map, List.length_cons, List.length_nil, List.length_take, List.length_drop, List.length_set] <;> omega)) x15.kb (hSo x15 (List.mem_of_getElem? hx15)).2.1.2 (by first | omega | (simp only [List.length_append, List.length_map, List.length_cons, List.length_nil, List.length_take, List.length_drop, List.length_set] <;> omega)) x15.kb.length (by first | omega | (simp only [List.length_append, List.length_map, List.length_cons, List.length_nil, List.length_take, List.length_drop, List.length_set] <;> omega)) _ _ _ (hSo x15 (List.mem_of_getElem? hx15)).2.1.1 _ (St.rogB (Γ1 := [_, _]) hS27) (St.begin (Γ := [_, _]) hS27)) rfl (after_M (Γ1 := [_, _]) hS27 (fun v30 G30 w30 hv30 hS30 => ?_))
              clear hS27
              obtain ⟨ad30, cp30, ps30, oa30, on30, oc30, rfl, rfl, hT30, hab30, hold30⟩ := hv30
              have hS31 : St _ _ [tb k3 ad30 cp30 ps30, .fz g24, .blk b16 (.cells #[.int .i64 x15.k, .slice x15.ka x15.kb.length x15.kc, .slice x15.ra x15.rb.length x15.rc] 67)] _ := hS30; clear hS30
              have hfl30 := flat_drop hab30
              have hon30 := hold30.2.2.2
              have hoe30 := hold30.1
              refine hK _ _ ?_; clear hK K
              refine l_nil ?_
              refine hK13 _ _ ?_
              refine wp_region_lit ?_
              refine l_q rfl rfl (q_moveI rfl) ?_
              refine l_q rfl rfl (q_addx rfl rfl (by first | decide | omega) (by first | decide | omega)) ?_
              refine l_q rfl rfl (q_assignI rfl) ?_
              refine l_nil ?_
              have hS32 : St _ _ [tb k3 ad30 cp30 ps30, .fz g24] _ := hS31.only 2; clear hS31
              refine hK8 _ _ (came (⟨(i + 1), ad30, cp30, ps30, g24⟩) (by repeat' (first | exact Agree.refl _ _ | refine Agree.up ?_ rfl | refine Agree.hav2 ?_ rfl | refine Agree.ups2 ?_ rfl)) (by repeat' (first | exact trivial | refine ⟨by first | rfl | exact int_succ _ | assumption, ?_⟩)) ?_)
              exact ⟨⟨hS32, (by show i + 1 ≤ S.length; omega), (by show i + 1 ≤ 150; omega), hT30, (by show (flat ps30).length ≤ i + 1; omega)⟩, by (show S.length - (i + 1) < S.length - i); omega⟩
            ·
              have hc29b := hc29
              try simp only [decide_eq_true_eq, decide_eq_false_iff_not, Bool.not_eq_true', Bool.not_eq_false', Bool.and_eq_true, Bool.or_eq_true, Int.not_lt, Int.not_le, ne_eq, Decidable.not_not] at hc29
              refine wp_skip ?_
              refine hK13 _ _ ?_
              refine wp_region_lit ?_
              refine l_q rfl rfl (q_moveI rfl) ?_
              refine l_q rfl rfl (q_addx rfl rfl (by first | decide | omega) (by first | decide | omega)) ?_
              refine l_q rfl rfl (q_assignI rfl) ?_
              refine l_nil ?_
              have hS33 : St _ _ [tb k3 ad24 cp24 ps24, .fz g24] _ := hS27.only 2; clear hS27
              refine hK8 _ _ (came (⟨(i + 1), ad24, cp24, ps24, g24⟩) (by repeat' (first | exact Agree.refl _ _ | refine Agree.up ?_ rfl | refine Agree.hav2 ?_ rfl | refine Agree.ups2 ?_ rfl)) (by repeat' (first | exact trivial | refine ⟨by first | rfl | exact int_succ _ | assumption, ?_⟩)) ?_)
              exact ⟨⟨hS33, (by show i + 1 ≤ S.length; omega), (by show i + 1 ≤ 150; omega), hT24, (by show (flat ps24).length ≤ i + 1; omega)⟩, by (show S.length - (i + 1) < S.length - i); omega⟩
          ·
            have hc23b := hc23
            try simp only [decide_eq_true_eq, decide_eq_false_iff_not, Bool.not_eq_true', Bool.not_eq_false', Bool.and_eq_true, Bool.or_eq_true, Int.not_lt, Int.not_le, ne_eq, Decidable.not_not] at hc23
            refine wp_skip ?_
            refine hK20 _ _ ?_
            refine wp_seq_k (fun K34 hK34 => ?_)
            refine wp_region_lit ?_
            refine l_q rfl rfl (q_moveB rfl) ?_
            refine l_q rfl rfl (q_moveB rfl) ?_
            refine l_on rfl rfl hg22b ?_
            refine l_q rfl rfl (q_fieldAddr (ft := 3) (o := 0) rfl (by kernel_rfl)) ?_
            refine l_on rfl rfl hg22b ?_
            refine l_q rfl rfl (q_load1 rfl (by kernel_rfl) (hS19.cell (i := 0) rfl rfl)) ?_
            refine l_on rfl rfl hg22b ?_
            refine l_q rfl rfl (q_eql rfl rfl) ?_
            refine l_q rfl rfl (q_pickT rfl hg22b rfl) ?_
            refine l_nil ?_
            refine hK34 _ _ ?_
            refine c_cond rfl (fun hc35 => ?_) (fun hc35 => ?_)
            ·
              have hc35b := hc35
              try simp only [decide_eq_true_eq, decide_eq_false_iff_not, Bool.not_eq_true', Bool.not_eq_false', Bool.and_eq_true, Bool.or_eq_true, Int.not_lt, Int.not_le, ne_eq, Decidable.not_not] at hc35
              refine wp_region_lit ?_
              refine l_q rfl rfl (q_moveP rfl) ?_
              refine l_q rfl rfl (q_fieldAddr (ft := 23) (o := 1) rfl (by kernel_rfl)) ?_
              refine l_q rfl rfl (q_load1 rfl (by kernel_rfl) (hS19.cell (i := 0) rfl rfl)) ?_
              refine l_e rfl (fun K hK => ?_)
              have hS37 := hS19.fr2; clear hS19
              have hS38 := hS37.fr2; clear hS37
              refine e_call (by kernel_rfl) (drop_ok k3 _ _ ps _ hTl (by first | omega | (simp only [List.length_append, List.length_map, List.length_cons, List.length_nil, List.length_take, List.length_drop, List.length_set] <;> omega)) x15.kb (hSo x15 (List.mem_of_getElem? hx15)).2.1.2 (by first | omega | (simp only [List.length_append, List.length_map, List.length_cons, List.length_nil, List.length_take, List.length_drop, List.length_set] <;> omega)) x15.kb.length (by first | omega | (simp only [List.length_append, List.length_map, List.length_cons, List.length_nil, List.length_take, List.length_drop, List.length_set] <;> omega)) _ _ _ (hSo x15 (List.mem_of_getElem? hx15)).2.1.1 _ (St.rogB (Γ1 := [_, _]) hS38) (St.begin (Γ := [_, _]) hS38)) rfl (after_M (Γ1 := [_, _]) hS38 (fun v36 G36 w36 hv36 hS36 => ?_))
              clear hS38
              obtain ⟨ad36, cp36, ps36, oa36, on36, oc36, rfl, rfl, hT36, hab36, hold36⟩ := hv36
              have hS39 : St _ _ [tb k3 ad36 cp36 ps36, .fz g, .blk b16 (.cells #[.int .i64 x15.k, .slice x15.ka x15.kb.length x15.kc, .slice x15.ra x15.rb.length x15.rc] 67)] _ := hS36; clear hS36
              have hfl36 := flat_drop hab36
              have hon36 := hold36.2.2.2
              have hoe36 := hold36.1
              refine hK _ _ ?_; clear hK K
              refine l_nil ?_
              refine hK13 _ _ ?_
              refine wp_region_lit ?_
              refine l_q rfl rfl (q_moveI rfl) ?_
              refine l_q rfl rfl (q_addx rfl rfl (by first | decide | omega) (by first | decide | omega)) ?_
              refine l_q rfl rfl (q_assignI rfl) ?_
              refine l_nil ?_
              have hS40 : St _ _ [tb k3 ad36 cp36 ps36, .fz g] _ := hS39.only 2; clear hS39
              refine hK8 _ _ (came (⟨(i + 1), ad36, cp36, ps36, g⟩) (by repeat' (first | exact Agree.refl _ _ | refine Agree.up ?_ rfl | refine Agree.hav2 ?_ rfl | refine Agree.ups2 ?_ rfl)) (by repeat' (first | exact trivial | refine ⟨by first | rfl | exact int_succ _ | assumption, ?_⟩)) ?_)
              exact ⟨⟨hS40, (by show i + 1 ≤ S.length; omega), (by show i + 1 ≤ 150; omega), hT36, (by show (flat ps36).length ≤ i + 1; omega)⟩, by (show S.length - (i + 1) < S.length - i); omega⟩
            ·
              have hc35b := hc35
              try simp only [decide_eq_true_eq, decide_eq_false_iff_not, Bool.not_eq_true', Bool.not_eq_false', Bool.and_eq_true, Bool.or_eq_true, Int.not_lt, Int.not_le, ne_eq, Decidable.not_not] at hc35
              refine wp_skip ?_
              refine hK13 _ _ ?_
              refine wp_region_lit ?_
              refine l_q rfl rfl (q_moveI rfl) ?_
              refine l_q rfl rfl (q_addx rfl rfl (by first | decide | omega) (by first | decide | omega)) ?_
              refine l_q rfl rfl (q_assignI rfl) ?_
              refine l_nil ?_
              have hS41 := hS19.fr2; clear hS19
              have hS42 := hS41.fr2; clear hS41
              have hS43 : St _ _ [tb k3 ad cap ps, .fz g] _ := hS42.only 2; clear hS42
              refine hK8 _ _ (came (⟨(i + 1), ad, cap, ps, g⟩) (by repeat' (first | exact Agree.refl _ _ | refine Agree.up ?_ rfl | refine Agree.hav2 ?_ rfl | refine Agree.ups2 ?_ rfl)) (by repeat' (first | exact trivial | refine ⟨by first | rfl | exact int_succ _ | assumption, ?_⟩)) ?_)
              exact ⟨⟨hS43, (by show i + 1 ≤ S.length; omega), (by show i + 1 ≤ 150; omega), hTl, (by show (flat ps).length ≤ i + 1; omega)⟩, by (show S.length - (i + 1) < S.length - i); omega⟩
        ·
          have hg22b := hg22
          try simp only [decide_eq_true_eq, decide_eq_false_iff_not, Bool.not_eq_true', Bool.not_eq_false', Bool.and_eq_true, Bool.or_eq_true, Int.not_lt, Int.not_le, ne_eq, Decidable.not_not] at hg22
          refine l_off rfl rfl rfl hg22b ?_
          refine l_off rfl rfl rfl hg22b ?_
          refine l_off rfl rfl rfl hg22b ?_
          refine l_q rfl rfl (q_pickF rfl hg22b rfl) ?_
          refine l_nil ?_
          refine hK21 _ _ ?_
          refine c_condF rfl rfl ?_
          refine wp_skip ?_
          refine hK20 _ _ ?_
          refine wp_seq_k (fun K45 hK45 => ?_)
          refine wp_region_lit ?_
          refine l_q rfl rfl (q_moveB rfl) ?_
          refine l_q rfl rfl (q_moveB rfl) ?_
          refine l_off rfl rfl rfl hg22b ?_
          refine l_off rfl rfl rfl hg22b ?_
          refine l_off rfl rfl rfl hg22b ?_
          refine l_q rfl rfl (q_pickF rfl hg22b rfl) ?_
          refine l_nil ?_
          refine hK45 _ _ ?_
          refine c_condF rfl rfl ?_
          refine wp_skip ?_
          refine hK13 _ _ ?_
          refine wp_region_lit ?_
          refine l_q rfl rfl (q_moveI rfl) ?_
          refine l_q rfl rfl (q_addx rfl rfl (by first | decide | omega) (by first | decide | omega)) ?_
          refine l_q rfl rfl (q_assignI rfl) ?_
          refine l_nil ?_
          have hS47 := hS19.fr2; clear hS19
          have hS48 := hS47.fr2; clear hS47
          have hS49 : St _ _ [tb k3 ad cap ps, .fz g] _ := hS48.only 2; clear hS48
          refine hK8 _ _ (came (⟨(i + 1), ad, cap, ps, g⟩) (by repeat' (first | exact Agree.refl _ _ | refine Agree.up ?_ rfl | refine Agree.hav2 ?_ rfl | refine Agree.ups2 ?_ rfl)) (by repeat' (first | exact trivial | refine ⟨by first | rfl | exact int_succ _ | assumption, ?_⟩)) ?_)
          exact ⟨⟨hS49, (by show i + 1 ≤ S.length; omega), (by show i + 1 ≤ 150; omega), hTl, (by show (flat ps).length ≤ i + 1; omega)⟩, by (show S.length - (i + 1) < S.length - i); omega⟩
      ·
        have hc12b := hc12
        try simp only [decide_eq_true_eq, decide_eq_false_iff_not, Bool.not_eq_true', Bool.not_eq_false', Bool.and_eq_true, Bool.or_eq_true, Int.not_lt, Int.not_le, ne_eq, Decidable.not_not] at hc12
        refine wp_exit ?_
        refine hK6 _ _ ?_
        refine wp_seq_k (fun K50 hK50 => ?_)
        refine wp_region_lit ?_
        refine l_q rfl rfl (q_moveP rfl) ?_
        refine l_q rfl rfl (q_assignP rfl) ?_
        refine l_nil ?_
        refine hK50 _ _ ?_
        refine wp_ret ?_
        refine c_ret1 rfl rfl ?_
        exact ⟨_, _, rfl, ⟨_, _, _, _, _, rfl, rfl, hTl, by omega⟩, hS8⟩
    ·
      have hg11b := hg11
      try simp only [decide_eq_true_eq, decide_eq_false_iff_not, Bool.not_eq_true', Bool.not_eq_false', Bool.and_eq_true, Bool.or_eq_true, Int.not_lt, Int.not_le, ne_eq, Decidable.not_not] at hg11
      refine l_off rfl rfl rfl hg11b ?_
      refine l_off rfl rfl rfl hg11b ?_
      refine l_q rfl rfl (q_pickF rfl hg11b rfl) ?_
      refine l_nil ?_
      refine hK10 _ _ ?_
      refine c_condF rfl rfl ?_
      refine wp_exit ?_
      refine hK6 _ _ ?_
      refine wp_seq_k (fun K52 hK52 => ?_)
      refine wp_region_lit ?_
      refine l_q rfl rfl (q_moveP rfl) ?_
      refine l_q rfl rfl (q_assignP rfl) ?_
      refine l_nil ?_
      refine hK52 _ _ ?_
      refine wp_ret ?_
      refine c_ret1 rfl rfl ?_
      exact ⟨_, _, rfl, ⟨_, _, _, _, _, rfl, rfl, hTl, by omega⟩, hS8⟩

end Go.Proofs.Ytmbbkliekgiolaa
