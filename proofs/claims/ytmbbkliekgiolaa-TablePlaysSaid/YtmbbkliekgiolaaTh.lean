/- law08: Range, Same, told, fits. -/
import Derived.Test.YtmbbkliekgiolaaTg
set_option linter.unusedVariables false
set_option linter.unusedSimpArgs false
namespace Go.Proofs.Ytmbbkliekgiolaa
open Go.RowKit
attribute [local irreducible] Oper.wp Sem.run Code.wp wpList wpAnyO callFunc execOp Calls
attribute [local irreducible] cmpL putA getA lastB ent inB

set_option maxRecDepth 100000 in
theorem rrange_ok (L : List KV) (hL : KB L) (hn : L.length ≤ 100000) (al : Option Addr) (cl : Nat) (fr to : List Nat) (hf : Bytes fr) (ht : Bytes to) (most : Int) (hm0 : -9223372036854775808 ≤ most) (hm1 : most ≤ 9223372036854775807) (w : World) (hG : SlG (hw w) al (List.flatMap re L)) : Calls Try.prog 43 #[.slice al L.length cl, .string (bs fr), .string (bs to), .int .i64 most] w (PostN w fun v G => ∃ oa oc, v = .slice oa (rangeB L fr to most.toNat).length oc ∧ G = [.ow 36 2 oa (rangeB L fr to most.toNat).length oc (List.flatMap re (rangeB L fr to most.toNat))]) := by
  have hS := St.start w
  refine c_enter Try.func43 rfl rfl rfl ?_
  refine wp_seq_k (fun K1 hK1 => ?_)
  refine wp_region_lit ?_
  refine l_q rfl rfl (q_assignS rfl) ?_
  refine l_nil ?_
  refine hK1 _ _ ?_
  refine wp_seq_k (fun K2 hK2 => ?_)
  refine wp_region_lit ?_
  refine l_q rfl rfl (q_assignS rfl) ?_
  refine l_nil ?_
  refine hK2 _ _ ?_
  refine wp_seq_k (fun K3 hK3 => ?_)
  refine wp_seq_k (fun K4 hK4 => ?_)
  refine wp_region_lit ?_
  refine l_q rfl rfl (q_assignI rfl) ?_
  refine l_nil ?_
  refine hK4 _ _ ?_
  refine wp_block ?_
  have hS5 := hS.ow_nil 36 2; clear hS
  refine c_loop (τ := Nat × (Option Addr) × Nat) [(9, 39)] (fun x => (fun (i : Nat) (oa : Option Addr) (oc : Nat) => [(10, .int .i64 ((i : Nat) : Int)), (9, .slice oa (((L.take i).filter (pF fr to)).length) oc)]) x.1 x.2.1 x.2.2) (fun x w' => (fun (i : Nat) (oa : Option Addr) (oc : Nat) => St w (fun _ => False) [.ow 36 2 oa (((L.take i).filter (pF fr to)).length) oc (List.flatMap re ((L.take i).filter (pF fr to)))] w' ∧ i ≤ L.length ∧ ((L.take i).filter (pF fr to)).length ≤ most.toNat) x.1 x.2.1 x.2.2) (fun x => (fun (i : Nat) (oa : Option Addr) (oc : Nat) => L.length - i) x.1 x.2.1 x.2.2) (⟨0, none, 0⟩) ?_ (by repeat' (first | exact trivial | refine ⟨by first | rfl | exact int_succ _ | assumption, ?_⟩)) (fun x6 j6 w6 hJ6 K6 hK6 => ?_)
  ·
    exact ⟨hS5, Nat.zero_le _, Nat.zero_le _⟩
  ·
    obtain ⟨i, oa, oc⟩ := x6
    obtain ⟨hS6, hi, hm⟩ := hJ6
    try dsimp only at hS6 hi hm ⊢
    have hdl : ((L.take i).filter (pF fr to)).length ≤ L.length := Nat.le_trans (List.length_filter_le _ _) (by rw [List.length_take]; omega)
    refine wp_seq_k (fun K7 hK7 => ?_)
    refine wp_seq_k (fun K8 hK8 => ?_)
    refine wp_region_lit ?_
    refine l_q rfl rfl (q_moveI rfl) ?_
    refine l_q rfl rfl (q_moveS rfl) ?_
    refine l_q rfl rfl (q_lenSl (e := 36) rfl (by kernel_rfl)) ?_
    refine l_q rfl rfl (q_lss rfl rfl) ?_
    refine l_q rfl rfl (q_moveB rfl) ?_
    refine g_splitL (t := 16) rfl (fun hg9 => ?_) (fun hg9 => ?_)
    ·
      have hg9b := hg9
      try simp only [decide_eq_true_eq, decide_eq_false_iff_not, Bool.not_eq_true', Bool.not_eq_false', Bool.and_eq_true, Bool.or_eq_true, Int.not_lt, Int.not_le, ne_eq, Decidable.not_not] at hg9
      refine l_on rfl rfl hg9b ?_
      refine l_q rfl rfl (q_moveS rfl) ?_
      refine l_on rfl rfl hg9b ?_
      refine l_q rfl rfl (q_lenSl (e := 36) rfl (by kernel_rfl)) ?_
      refine l_on rfl rfl hg9b ?_
      refine l_q rfl rfl (q_moveI rfl) ?_
      refine l_on rfl rfl hg9b ?_
      refine l_q rfl rfl (q_lss rfl rfl) ?_
      refine l_q rfl rfl (q_pickT rfl hg9b rfl) ?_
      refine l_nil ?_
      refine hK8 _ _ ?_
      refine c_cond rfl (fun hc10 => ?_) (fun hc10 => ?_)
      ·
        have hc10b := hc10
        try simp only [decide_eq_true_eq, decide_eq_false_iff_not, Bool.not_eq_true', Bool.not_eq_false', Bool.and_eq_true, Bool.or_eq_true, Int.not_lt, Int.not_le, ne_eq, Decidable.not_not] at hc10
        refine wp_skip ?_
        refine hK7 _ _ ?_
        refine wp_seq_k (fun K11 hK11 => ?_)
        refine wp_block ?_
        refine wp_seq_k (fun K12 hK12 => ?_)
        refine wp_region_lit ?_
        refine l_q rfl rfl (q_moveS rfl) ?_
        refine l_q rfl rfl (q_moveI rfl) ?_
        refine l_q rfl rfl (q_ixG (e := 36) (m := 2) (j := i) rfl rfl (by kernel_rfl) (by kernel_rfl) (by first | rfl | omega) (by omega) hG (by rw [rows_len (c := re) (m := 2) (fun _ => rfl)]; first | omega | (simp only [List.length_append, List.length_map, List.length_cons, List.length_nil, List.length_take, List.length_drop, List.length_set] <;> omega))) ?_
        refine l_q rfl rfl (q_fieldG (ft := 9) (o := 0) rfl (by kernel_rfl)) ?_
        obtain ⟨x13, hx13⟩ : ∃ x, (L)[i]? = some x := ⟨_, List.getElem?_eq_getElem (by first | omega | (simp only [List.length_append, List.length_map, List.length_cons, List.length_nil, List.length_take, List.length_drop, List.length_set] <;> omega) | (simp <;> omega))⟩
        refine l_q rfl rfl (q_load1 rfl (by kernel_rfl) (SlG.cell (hG.mono hS6.base) (Gle.refl _) (row_at hx13 (c := re) (m := 2) (fun _ => rfl) (j := 0) rfl))) ?_
        refine l_q rfl rfl (q_move rfl) ?_
        refine l_q rfl rfl (q_move rfl) ?_
        refine l_e rfl (fun K hK => ?_)
        refine e_call (by kernel_rfl) (rin_ok x13.1 fr to (hL x13 (List.mem_of_getElem? hx13)).1 hf ht _) rfl (after_R hS6 (fun v14 w14 hv14 hS14 => ?_))
        clear hS6
        obtain rfl := hv14
        refine hK _ _ ?_; clear hK K
        refine l_q rfl rfl (q_assignB rfl) ?_
        refine l_nil ?_
        refine hK12 _ _ ?_
        refine wp_seq_k (fun K15 hK15 => ?_)
        refine wp_region_lit ?_
        refine l_q rfl rfl (q_moveB rfl) ?_
        refine l_nil ?_
        refine hK15 _ _ ?_
        refine c_cond rfl (fun hc16 => ?_) (fun hc16 => ?_)
        ·
          have hc16b := hc16
          try simp only [decide_eq_true_eq, decide_eq_false_iff_not, Bool.not_eq_true', Bool.not_eq_false', Bool.and_eq_true, Bool.or_eq_true, Int.not_lt, Int.not_le, ne_eq, Decidable.not_not] at hc16
          have hneX : pF fr to x13 = true := by unfold pF; simpa using hc16
          have hxX := hx13
          refine wp_region_lit ?_
          refine l_q rfl rfl (q_moveS rfl) ?_
          refine l_q rfl rfl (q_moveS rfl) ?_
          refine l_q rfl rfl (q_moveI rfl) ?_
          refine l_q rfl rfl (q_ixG (e := 36) (m := 2) (j := i) rfl rfl (by kernel_rfl) (by kernel_rfl) (by first | rfl | omega) (by omega) hG (by rw [rows_len (c := re) (m := 2) (fun _ => rfl)]; first | omega | (simp only [List.length_append, List.length_map, List.length_cons, List.length_nil, List.length_take, List.length_drop, List.length_set] <;> omega))) ?_
          refine l_q rfl rfl (q_loadGA (m := 2) rfl (by kernel_rfl) (by kernel_rfl) (hG.mono hS14.base) (row_take hx13 (c := re) (m := 2) (fun _ => rfl)) rfl (by decide)) ?_
          refine l_e rfl (fun K hK => ?_)
          refine e_buildSliceA (e := 36) (m := 2) (zv := .agg #[.string ⟨#[]⟩, .string ⟨#[]⟩]) hS14 (by kernel_rfl) (by kernel_rfl) (by kernel_rfl) rfl rfl rfl rfl (fun b17 w17 (hS17 : St _ _ [.blk b17 (.cells #[.string (bs x13.1), .string (bs x13.2)] 36), .ow 36 2 oa (((L.take i).filter (pF fr to)).length) oc (List.flatMap re ((L.take i).filter (pF fr to)))] _) => ?_)
          clear hS14
          have hS17o : St _ _ [.ow 36 2 (some ⟨b17, 0, none⟩) 1 1 (List.flatMap re [x13]), .ow 36 2 oa (((L.take i).filter (pF fr to)).length) oc (List.flatMap re ((L.take i).filter (pF fr to)))] _ := hS17.blkOw' (i := 0) (m := 1) (size := 2) (xs := List.flatMap re [x13]) rfl rfl rfl (by decide); clear hS17
          refine hK _ _ ?_; clear hK K
          refine l_e rfl (fun K hK => ?_)
          refine e_app (e := 36) (size := 2) (bytes := 32) (i := 1) (m' := (((L.take i).filter (pF fr to)) ++ [x13]).length) (by kernel_rfl) hS17o rfl rfl rfl (SlG.src (e := 36) (by kernel_rfl) (hS17o.owG (i := 0) rfl) ((rows_len (c := re) (m := 2) (fun _ => rfl) _).trans (by first | rfl | (simp only [List.length_append, List.length_map, List.length_cons, List.length_nil, List.length_take, List.length_drop, List.length_set]; done) | (simp only [List.length_append, List.length_map, List.length_cons, List.length_nil, List.length_take, List.length_drop, List.length_set]; omega) | omega)) (by decide) (rows_one re_ones)) (by first | omega | (simp only [List.length_append, List.length_map, List.length_cons, List.length_nil, List.length_take, List.length_drop, List.length_set] <;> omega) | (simp; done)) rows_app (by first | omega | (simp only [maxLen, List.length_append, List.length_map, List.length_cons, List.length_nil, List.length_take, List.length_drop, List.length_set] <;> omega) | (simp only [maxLen]; omega)) (by first | omega | (simp only [List.length_append, List.length_map, List.length_cons, List.length_nil, List.length_take, List.length_drop, List.length_set] <;> omega)) (fun ad18 cp18 w18 (hS18 : St _ _ [.ow 36 2 (some ⟨b17, 0, none⟩) 1 1 (List.flatMap re [x13]), .ow 36 2 ad18 ((((L.take i).filter (pF fr to)) ++ [x13]).length) cp18 (List.flatMap re (((L.take i).filter (pF fr to)) ++ [x13]))] _) => ?_)
          clear hS17o
          refine hK _ _ ?_; clear hK K
          refine l_q rfl rfl (q_assignS rfl) ?_
          refine l_nil ?_
          refine hK11 _ _ ?_
          refine wp_region_lit ?_
          refine l_q rfl rfl (q_moveI rfl) ?_
          refine l_q rfl rfl (q_addx rfl rfl (by first | decide | omega) (by first | decide | omega)) ?_
          refine l_q rfl rfl (q_assignI rfl) ?_
          refine l_nil ?_
          have hS19 : St _ _ [.ow 36 2 (some ⟨b17, 0, none⟩) 1 1 (List.flatMap re [x13]), .ow 36 2 ad18 (((L.take (i + 1)).filter (pF fr to)).length) cp18 (List.flatMap re ((L.take (i + 1)).filter (pF fr to)))] _ := hS18.cast (by rw [filt_take hx13, if_pos hneX]); clear hS18
          have hm2 : ((L.take (i + 1)).filter (pF fr to)).length ≤ most.toNat := by
            rw [filt_take hxX, if_pos hneX, List.length_append]
            simp only [List.length_cons, List.length_nil]; omega
          have hS20 := hS19.fr1; clear hS19
          have hS21 : St _ _ [.ow 36 2 ad18 (((L.take (i + 1)).filter (pF fr to)).length) cp18 (List.flatMap re ((L.take (i + 1)).filter (pF fr to)))] _ := hS20.only 1; clear hS20
          refine hK6 _ _ (came (⟨(i + 1), ad18, cp18⟩) (by repeat' (first | exact Agree.refl _ _ | refine Agree.up ?_ rfl | refine Agree.hav2 ?_ rfl | refine Agree.ups2 ?_ rfl)) (by repeat' (first | exact trivial | refine ⟨by first | rfl | exact int_succ _ | assumption | (rw [filt_take hxX, if_pos hneX]; rfl) | (rw [filt_take hxX, if_neg hneX]; rfl), ?_⟩)) ?_)
          exact ⟨⟨hS21, (by show i + 1 ≤ L.length; omega), hm2⟩, by (show L.length - (i + 1) < L.length - i); omega⟩
        ·
          have hc16b := hc16
          try simp only [decide_eq_true_eq, decide_eq_false_iff_not, Bool.not_eq_true', Bool.not_eq_false', Bool.and_eq_true, Bool.or_eq_true, Int.not_lt, Int.not_le, ne_eq, Decidable.not_not] at hc16
          have hneX : ¬ pF fr to x13 = true := by unfold pF; simpa using hc16
          have hxX := hx13
          refine wp_skip ?_
          refine hK11 _ _ ?_
          refine wp_region_lit ?_
          refine l_q rfl rfl (q_moveI rfl) ?_
          refine l_q rfl rfl (q_addx rfl rfl (by first | decide | omega) (by first | decide | omega)) ?_
          refine l_q rfl rfl (q_assignI rfl) ?_
          refine l_nil ?_
          have hS22 : St _ _ [.ow 36 2 oa (((L.take (i + 1)).filter (pF fr to)).length) oc (List.flatMap re ((L.take (i + 1)).filter (pF fr to)))] _ := hS14.cast (by rw [filt_take hx13, if_neg hneX]); clear hS14
          have hm2 : ((L.take (i + 1)).filter (pF fr to)).length ≤ most.toNat := by
            rw [filt_take hxX, if_neg hneX]
            exact hm
          refine hK6 _ _ (came (⟨(i + 1), oa, oc⟩) (by repeat' (first | exact Agree.refl _ _ | refine Agree.up ?_ rfl | refine Agree.hav2 ?_ rfl | refine Agree.ups2 ?_ rfl)) (by repeat' (first | exact trivial | refine ⟨by first | rfl | exact int_succ _ | assumption | (rw [filt_take hxX, if_pos hneX]; rfl) | (rw [filt_take hxX, if_neg hneX]; rfl), ?_⟩)) ?_)
          exact ⟨⟨hS22, (by show i + 1 ≤ L.length; omega), hm2⟩, by (show L.length - (i + 1) < L.length - i); omega⟩
      ·
        have hc10b := hc10
        try simp only [decide_eq_true_eq, decide_eq_false_iff_not, Bool.not_eq_true', Bool.not_eq_false', Bool.and_eq_true, Bool.or_eq_true, Int.not_lt, Int.not_le, ne_eq, Decidable.not_not] at hc10
        refine wp_exit ?_
        refine hK3 _ _ ?_
        refine wp_seq_k (fun K23 hK23 => ?_)
        refine wp_region_lit ?_
        refine l_q rfl rfl (q_moveS rfl) ?_
        refine l_q rfl rfl (q_assignS rfl) ?_
        refine l_nil ?_
        refine hK23 _ _ ?_
        refine wp_ret ?_
        refine c_ret1 rfl rfl ?_
        have hd : (L.take i).filter (pF fr to) = rangeB L fr to most.toNat := by rw [rangeB_pF]; exact filt_done hm (by omega)
        rw [hd] at hS6
        exact ⟨_, _, rfl, ⟨oa, oc, congrArg (fun l : List KV => Value.slice oa l.length oc) hd, rfl⟩, hS6⟩
    ·
      have hg9b := hg9
      try simp only [decide_eq_true_eq, decide_eq_false_iff_not, Bool.not_eq_true', Bool.not_eq_false', Bool.and_eq_true, Bool.or_eq_true, Int.not_lt, Int.not_le, ne_eq, Decidable.not_not] at hg9
      refine l_off rfl rfl rfl hg9b ?_
      refine l_off rfl rfl rfl hg9b ?_
      refine l_off rfl rfl rfl hg9b ?_
      refine l_off rfl rfl rfl hg9b ?_
      refine l_q rfl rfl (q_pickF rfl hg9b rfl) ?_
      refine l_nil ?_
      refine hK8 _ _ ?_
      refine c_condF rfl rfl ?_
      refine wp_exit ?_
      refine hK3 _ _ ?_
      refine wp_seq_k (fun K25 hK25 => ?_)
      refine wp_region_lit ?_
      refine l_q rfl rfl (q_moveS rfl) ?_
      refine l_q rfl rfl (q_assignS rfl) ?_
      refine l_nil ?_
      refine hK25 _ _ ?_
      refine wp_ret ?_
      refine c_ret1 rfl rfl ?_
      have hd : (L.take i).filter (pF fr to) = rangeB L fr to most.toNat := by rw [rangeB_pF]; exact filt_done hm (by omega)
      rw [hd] at hS6
      exact ⟨_, _, rfl, ⟨oa, oc, congrArg (fun l : List KV => Value.slice oa l.length oc) hd, rfl⟩, hS6⟩

set_option maxRecDepth 100000 in
theorem rsame_ok (L M : List KV) (hL : KB L) (hM : KB M) (nl nm : Nat) (hnl : L.length = nl) (hnm : M.length = nm) (hn : nl ≤ 100000) (hn2 : nm ≤ 100000) (al am : Option Addr) (cl cm : Nat) (w : World) (hG : SlG (hw w) al (List.flatMap re L)) (hG2 : SlG (hw w) am (List.flatMap re M)) : Calls Try.prog 18 #[.slice al nl cl, .slice am nm cm] w (PostR w fun v => v = .bool (decide (L = M))) := by
  have hS := St.start w
  subst hnl hnm
  refine c_enter Try.func18 rfl rfl rfl ?_
  refine wp_seq_k (fun K1 hK1 => ?_)
  refine wp_region_lit ?_
  refine l_q rfl rfl (q_assignB rfl) ?_
  refine l_nil ?_
  refine hK1 _ _ ?_
  refine wp_seq_k (fun K2 hK2 => ?_)
  refine wp_seq_k (fun K3 hK3 => ?_)
  refine wp_region_lit ?_
  refine l_q rfl rfl (q_moveS rfl) ?_
  refine l_q rfl rfl (q_lenSl (e := 36) rfl (by kernel_rfl)) ?_
  refine l_q rfl rfl (q_moveS rfl) ?_
  refine l_q rfl rfl (q_lenSl (e := 36) rfl (by kernel_rfl)) ?_
  refine l_q rfl rfl (q_neq rfl rfl) ?_
  refine l_nil ?_
  refine hK3 _ _ ?_
  refine c_cond rfl (fun hc4 => ?_) (fun hc4 => ?_)
  ·
    have hc4b := hc4
    try simp only [decide_eq_true_eq, decide_eq_false_iff_not, Bool.not_eq_true', Bool.not_eq_false', Bool.and_eq_true, Bool.or_eq_true, Int.not_lt, Int.not_le, ne_eq, Decidable.not_not] at hc4
    have hne : ¬ L = M := by rintro rfl; omega
    refine wp_seq_k (fun K5 hK5 => ?_)
    refine wp_region_lit ?_
    refine l_q rfl rfl (q_assignB rfl) ?_
    refine l_nil ?_
    refine hK5 _ _ ?_
    refine wp_ret ?_
    refine c_ret1 rfl rfl ?_
    exact ⟨_, rfl, congrArg Value.bool (decide_eq_false hne).symm, hS.drop⟩
  ·
    have hc4b := hc4
    try simp only [decide_eq_true_eq, decide_eq_false_iff_not, Bool.not_eq_true', Bool.not_eq_false', Bool.and_eq_true, Bool.or_eq_true, Int.not_lt, Int.not_le, ne_eq, Decidable.not_not] at hc4
    refine wp_skip ?_
    refine hK2 _ _ ?_
    refine wp_seq_k (fun K6 hK6 => ?_)
    refine wp_seq_k (fun K7 hK7 => ?_)
    refine wp_region_lit ?_
    refine l_q rfl rfl (q_assignI rfl) ?_
    refine l_nil ?_
    refine hK7 _ _ ?_
    refine wp_block ?_
    refine c_loop (τ := Nat) [(4, 5), (11, 25)] (fun x => (fun (i : Nat) => [(5, .int .i64 ((i : Nat) : Int))]) x) (fun x w' => (fun (i : Nat) => St w (fun _ => False) [] w' ∧ i ≤ L.length ∧ (∀ j, j < i → L[j]? = M[j]?)) x) (fun x => (fun (i : Nat) => L.length - i) x) (0) ?_ (by repeat' (first | exact trivial | refine ⟨by first | rfl | exact int_succ _ | assumption, ?_⟩)) (fun i j8 w8 hJ8 K8 hK8 => ?_)
    ·
      exact ⟨hS, Nat.zero_le _, fun j hj => by omega⟩
    ·
      obtain ⟨hS8, hi, hj⟩ := hJ8
      try dsimp only at hS8 hi hj ⊢
      refine wp_seq_k (fun K9 hK9 => ?_)
      refine wp_seq_k (fun K10 hK10 => ?_)
      refine wp_region_lit ?_
      refine l_q rfl rfl (q_moveI rfl) ?_
      refine l_q rfl rfl (q_moveS rfl) ?_
      refine l_q rfl rfl (q_lenSl (e := 36) rfl (by kernel_rfl)) ?_
      refine l_q rfl rfl (q_lss rfl rfl) ?_
      refine l_nil ?_
      refine hK10 _ _ ?_
      refine c_cond rfl (fun hc11 => ?_) (fun hc11 => ?_)
      ·
        have hc11b := hc11
        try simp only [decide_eq_true_eq, decide_eq_false_iff_not, Bool.not_eq_true', Bool.not_eq_false', Bool.and_eq_true, Bool.or_eq_true, Int.not_lt, Int.not_le, ne_eq, Decidable.not_not] at hc11
        refine wp_skip ?_
        refine hK9 _ _ ?_
        refine wp_seq_k (fun K12 hK12 => ?_)
        refine wp_block ?_
        refine wp_seq_k (fun K13 hK13 => ?_)
        refine r_any (by kernel_rfl) hS8 (fun w14 hS14 => ?_)
        clear hS8
        refine o_pure (i := 0) (fun _ _ => trivial) rfl rfl (by kernel_rfl) (goes0 rfl) (QOk.then (QOk.inBlock (QOk.then (QOk.then (QOk.inBlock (QOk.then QOk.body)))))) (fun w => q_moveS rfl) ?_
        refine o_pure (i := 1) (fun _ _ => trivial) rfl rfl (by kernel_rfl) (goes0 rfl) (QOk.then (QOk.inBlock (QOk.then (QOk.then (QOk.inBlock (QOk.then QOk.body)))))) (fun w => q_moveI rfl) ?_
        refine o_pure (i := 2) (fun _ _ => trivial) rfl rfl (by kernel_rfl) (goes0 rfl) (QOk.then (QOk.inBlock (QOk.then (QOk.then (QOk.inBlock (QOk.then QOk.body)))))) (fun w => q_ixG (e := 36) (m := 2) (j := i) rfl rfl (by kernel_rfl) (by kernel_rfl) (by first | rfl | omega) (by omega) hG (by rw [rows_len (c := re) (m := 2) (fun _ => rfl)]; first | omega | (simp only [List.length_append, List.length_map, List.length_cons, List.length_nil, List.length_take, List.length_drop, List.length_set] <;> omega))) ?_
        obtain ⟨x15, hx15⟩ : ∃ x, (L)[i]? = some x := ⟨_, List.getElem?_eq_getElem (by first | omega | (simp only [List.length_append, List.length_map, List.length_cons, List.length_nil, List.length_take, List.length_drop, List.length_set] <;> omega) | (simp <;> omega))⟩
        refine o_held (i := 3) [8] (fun _ _ => trivial) rfl rfl (by kernel_rfl) (goes0 rfl) (QOk.then (QOk.inBlock (QOk.then (QOk.then (QOk.inBlock (QOk.then QOk.body)))))) (q_loadGA (m := 2) rfl (by kernel_rfl) (by kernel_rfl) (hG.mono hS14.base) (row_take hx15 (c := re) (m := 2) (fun _ => rfl)) rfl (by decide)) ?_
        refine o_pure (i := 4) (fun j w => ⟨(fun _ _ => trivial) j w, fun _ h => h⟩) rfl rfl (by kernel_rfl) (goes0 rfl) (QOk.then (QOk.inBlock (QOk.then (QOk.then (QOk.inBlock (QOk.then QOk.body)))))) (fun w => q_moveS rfl) ?_
        refine o_pure (i := 5) (fun j w => ⟨(fun _ _ => trivial) j w, fun _ h => h⟩) rfl rfl (by kernel_rfl) (goes0 rfl) (QOk.then (QOk.inBlock (QOk.then (QOk.then (QOk.inBlock (QOk.then QOk.body)))))) (fun w => q_moveI rfl) ?_
        refine o_pure (i := 6) (fun j w => ⟨(fun _ _ => trivial) j w, fun _ h => h⟩) rfl rfl (by kernel_rfl) (goes0 rfl) (QOk.then (QOk.inBlock (QOk.then (QOk.then (QOk.inBlock (QOk.then QOk.body)))))) (fun w => q_ixG (e := 36) (m := 2) (j := i) rfl rfl (by kernel_rfl) (by kernel_rfl) (by first | rfl | omega) (by omega) hG2 (by rw [rows_len (c := re) (m := 2) (fun _ => rfl)]; first | omega | (simp only [List.length_append, List.length_map, List.length_cons, List.length_nil, List.length_take, List.length_drop, List.length_set] <;> omega))) ?_
        obtain ⟨x16, hx16⟩ : ∃ x, (M)[i]? = some x := ⟨_, List.getElem?_eq_getElem (by first | omega | (simp only [List.length_append, List.length_map, List.length_cons, List.length_nil, List.length_take, List.length_drop, List.length_set] <;> omega) | (simp <;> omega))⟩
        refine o_held (i := 7) [8] (fun j w => ⟨(fun _ _ => trivial) j w, fun _ h => h⟩) rfl rfl (by kernel_rfl) (goes0 rfl) (QOk.then (QOk.inBlock (QOk.then (QOk.then (QOk.inBlock (QOk.then QOk.body)))))) (q_loadGA (m := 2) rfl (by kernel_rfl) (by kernel_rfl) (hG2.mono hS14.base) (row_take hx16 (c := re) (m := 2) (fun _ => rfl)) rfl (by decide)) ?_
        refine o_pure (i := 8) (fun j w => ⟨(fun j w => ⟨(fun _ _ => trivial) j w, fun _ h => h⟩) j w, fun _ h => h⟩) rfl rfl (by kernel_rfl) (goes0 rfl) (QOk.then (QOk.inBlock (QOk.then (QOk.then (QOk.inBlock (QOk.then QOk.body)))))) (fun w => q_ss_neq (l := x15.1) (m := x15.2) (l' := x16.1) (m' := x16.2) rfl rfl (by kernel_rfl) (hL x15 (List.mem_of_getElem? hx15)).1 (hL x15 (List.mem_of_getElem? hx15)).2 (hM x16 (List.mem_of_getElem? hx16)).1 (hM x16 (List.mem_of_getElem? hx16)).2) ?_
        refine o_done (by kernel_rfl) ?_
        refine hK13 _ _ ?_
        refine c_cond rfl (fun hc17 => ?_) (fun hc17 => ?_)
        ·
          have hc17b := hc17
          try simp only [decide_eq_true_eq, decide_eq_false_iff_not, Bool.not_eq_true', Bool.not_eq_false', Bool.and_eq_true, Bool.or_eq_true, Int.not_lt, Int.not_le, ne_eq, Decidable.not_not] at hc17
          have hne : ¬ L = M := by
            rintro rfl
            rw [hx15] at hx16
            injection hx16 with hxy
            subst hxy
            simp at hc17
          refine wp_seq_k (fun K18 hK18 => ?_)
          refine wp_region_lit ?_
          refine l_q rfl rfl (q_assignB rfl) ?_
          refine l_nil ?_
          refine hK18 _ _ ?_
          refine wp_ret ?_
          refine c_ret1 rfl rfl ?_
          exact ⟨_, rfl, congrArg Value.bool (decide_eq_false hne).symm, hS14.drop⟩
        ·
          have hc17b := hc17
          try simp only [decide_eq_true_eq, decide_eq_false_iff_not, Bool.not_eq_true', Bool.not_eq_false', Bool.and_eq_true, Bool.or_eq_true, Int.not_lt, Int.not_le, ne_eq, Decidable.not_not] at hc17
          have heq : x15.1 = x16.1 ∧ x15.2 = x16.2 := by simpa using hc17
          refine wp_skip ?_
          refine hK12 _ _ ?_
          refine wp_region_lit ?_
          refine l_q rfl rfl (q_moveI rfl) ?_
          refine l_q rfl rfl (q_addx rfl rfl (by first | decide | omega) (by first | decide | omega)) ?_
          refine l_q rfl rfl (q_assignI rfl) ?_
          refine l_nil ?_
          refine hK8 _ _ (came ((i + 1)) (by repeat' (first | exact Agree.refl _ _ | refine Agree.up ?_ rfl | refine Agree.hav2 ?_ rfl | refine Agree.ups2 ?_ rfl)) (by repeat' (first | exact trivial | refine ⟨by first | rfl | exact int_succ _ | assumption, ?_⟩)) ?_)
          exact ⟨⟨hS14, by (show i + 1 ≤ L.length); omega, fun j hj' => by
                have hj' : j < i + 1 := hj'
                by_cases hji : j = i
                · subst hji; rw [hx15, hx16]; exact congrArg some (Prod.ext heq.1 heq.2)
                · exact hj j (by omega)⟩, by (show L.length - (i + 1) < L.length - i); omega⟩
      ·
        have hc11b := hc11
        try simp only [decide_eq_true_eq, decide_eq_false_iff_not, Bool.not_eq_true', Bool.not_eq_false', Bool.and_eq_true, Bool.or_eq_true, Int.not_lt, Int.not_le, ne_eq, Decidable.not_not] at hc11
        refine wp_exit ?_
        refine hK6 _ _ ?_
        refine wp_seq_k (fun K19 hK19 => ?_)
        refine wp_region_lit ?_
        refine l_q rfl rfl (q_assignB rfl) ?_
        refine l_nil ?_
        refine hK19 _ _ ?_
        refine wp_ret ?_
        refine c_ret1 rfl rfl ?_
        exact ⟨_, rfl, congrArg Value.bool (decide_eq_true (same_at (by omega) hj (by omega))).symm, hS8.drop⟩

set_option maxRecDepth 100000 in
theorem fits_ok (a : Ac8) (w : World) : Calls Try.prog 38 #[.agg (ac8 a).toArray] w (PostR w fun v => v = .bool (fits a)) := by
  have hS := St.start w
  refine c_enter Try.func38 rfl rfl rfl ?_
  refine wp_seq_k (fun K1 hK1 => ?_)
  refine wp_region_lit ?_
  refine l_e rfl (fun K hK => ?_)
  refine e_boxA hS rfl (fun b2 w2 (hS2 : St _ _ [.blk b2 (.cells #[.int .i64 a.k, .slice a.ka a.kb.length a.kc, .slice a.ra a.rb.length a.rc] 67)] _) => ?_)
  clear hS
  refine hK _ _ ?_; clear hK K
  refine l_q rfl rfl (q_assignB rfl) ?_
  refine l_nil ?_
  refine hK1 _ _ ?_
  refine wp_seq_k (fun K3 hK3 => ?_)
  refine wp_region_lit ?_
  refine l_q rfl rfl (q_fieldAddr (ft := 23) (o := 1) rfl (by kernel_rfl)) ?_
  refine l_q rfl rfl (q_load1 rfl (by kernel_rfl) (hS2.cell (i := 0) rfl rfl)) ?_
  refine l_q rfl rfl (q_lenSl (e := 5) rfl (by kernel_rfl)) ?_
  refine l_q rfl rfl (q_leq rfl rfl) ?_
  refine l_q rfl rfl (q_moveB rfl) ?_
  refine g_splitL (t := 7) rfl (fun hg4 => ?_) (fun hg4 => ?_)
  ·
    have hg4b := hg4
    try simp only [decide_eq_true_eq, decide_eq_false_iff_not, Bool.not_eq_true', Bool.not_eq_false', Bool.and_eq_true, Bool.or_eq_true, Int.not_lt, Int.not_le, ne_eq, Decidable.not_not] at hg4
    have h1 := hg4
    refine l_on rfl rfl hg4b ?_
    refine l_q rfl rfl (q_fieldAddr (ft := 23) (o := 2) rfl (by kernel_rfl)) ?_
    refine l_on rfl rfl hg4b ?_
    refine l_q rfl rfl (q_load1 rfl (by kernel_rfl) (hS2.cell (i := 0) rfl rfl)) ?_
    refine l_on rfl rfl hg4b ?_
    refine l_q rfl rfl (q_lenSl (e := 5) rfl (by kernel_rfl)) ?_
    refine l_on rfl rfl hg4b ?_
    refine l_q rfl rfl (q_leq rfl rfl) ?_
    refine l_q rfl rfl (q_pickT rfl hg4b rfl) ?_
    refine l_q rfl rfl (q_assignB rfl) ?_
    refine l_nil ?_
    refine hK3 _ _ ?_
    refine wp_ret ?_
    refine c_ret1 rfl rfl ?_
    exact ⟨_, rfl, congrArg Value.bool (by unfold fits; rw [decide_eq_true (show a.kb.length ≤ 40 by omega), Bool.true_and]; exact decide_eq_decide.2 (by omega)), hS2.drop⟩
  ·
    have hg4b := hg4
    try simp only [decide_eq_true_eq, decide_eq_false_iff_not, Bool.not_eq_true', Bool.not_eq_false', Bool.and_eq_true, Bool.or_eq_true, Int.not_lt, Int.not_le, ne_eq, Decidable.not_not] at hg4
    have h1 := hg4
    refine l_off rfl rfl rfl hg4b ?_
    refine l_off rfl rfl rfl hg4b ?_
    refine l_off rfl rfl rfl hg4b ?_
    refine l_off rfl rfl rfl hg4b ?_
    refine l_q rfl rfl (q_pickF rfl hg4b rfl) ?_
    refine l_q rfl rfl (q_assignB rfl) ?_
    refine l_nil ?_
    refine hK3 _ _ ?_
    refine wp_ret ?_
    refine c_ret1 rfl rfl ?_
    exact ⟨_, rfl, congrArg Value.bool (by unfold fits; rw [decide_eq_false (show ¬ a.kb.length ≤ 40 by omega)]; rfl), hS2.drop⟩

theorem KB.ens {g : Gh} {es : List En} {i : Nat} (h : ∀ a ∈ es, EnG g a) : KB ((es.take i).map En.kv) := fun c hc => by
  obtain ⟨a, ha, rfl⟩ := List.mem_map.1 hc
  have := h a (List.mem_of_mem_take ha)
  exact ⟨this.2.1, this.2.2.2⟩

set_option maxRecDepth 100000 in
theorem told_ok (es : List En) (n : Nat) (hn : es.length = n) (hnl : n ≤ 100000) (al : Option Addr) (cl : Nat) (w : World) (hok : ∀ a ∈ es, EnG (hw w) a) (hG : SlG (hw w) al (List.flatMap en es)) : Calls Try.prog 16 #[.slice al n cl] w (PostN w fun v G => ∃ oa oc, v = .slice oa (es.map En.kv).length oc ∧ G = [.ow 36 2 oa (es.map En.kv).length oc (List.flatMap re (es.map En.kv))]) := by
  have hS := St.start w
  subst hn
  refine c_enter Try.func16 rfl rfl rfl ?_
  refine wp_seq_k (fun K1 hK1 => ?_)
  refine wp_region_lit ?_
  refine l_q rfl rfl (q_assignS rfl) ?_
  refine l_nil ?_
  refine hK1 _ _ ?_
  refine wp_seq_k (fun K2 hK2 => ?_)
  refine wp_region_lit ?_
  refine l_q rfl rfl (q_assignS rfl) ?_
  refine l_nil ?_
  refine hK2 _ _ ?_
  refine wp_seq_k (fun K3 hK3 => ?_)
  refine wp_seq_k (fun K4 hK4 => ?_)
  refine wp_region_lit ?_
  refine l_q rfl rfl (q_assignI rfl) ?_
  refine l_nil ?_
  refine hK4 _ _ ?_
  refine wp_block ?_
  have hS5 := hS.ow_nil 36 2; clear hS
  refine c_loop (τ := Nat × (Option Addr) × Nat) [(3, 26)] (fun x => (fun (i : Nat) (oa : Option Addr) (oc : Nat) => [(4, .int .i64 ((i : Nat) : Int)), (3, .slice oa ((List.map En.kv (es.take i)).length) oc)]) x.1 x.2.1 x.2.2) (fun x w' => (fun (i : Nat) (oa : Option Addr) (oc : Nat) => St w (fun _ => False) [.ow 36 2 oa ((List.map En.kv (es.take i)).length) oc (List.flatMap re (List.map En.kv (es.take i)))] w' ∧ i ≤ es.length) x.1 x.2.1 x.2.2) (fun x => (fun (i : Nat) (oa : Option Addr) (oc : Nat) => es.length - i) x.1 x.2.1 x.2.2) (⟨0, none, 0⟩) ?_ (by repeat' (first | exact trivial | refine ⟨by first | rfl | exact int_succ _ | assumption, ?_⟩)) (fun x6 j6 w6 hJ6 K6 hK6 => ?_)
  ·
    exact ⟨hS5, Nat.zero_le _⟩
  ·
    obtain ⟨i, oa, oc⟩ := x6
    obtain ⟨hS6, hi⟩ := hJ6
    try dsimp only at hS6 hi ⊢
    have htl : (List.map En.kv (es.take i)).length ≤ es.length := by rw [List.length_map, List.length_take]; omega
    refine wp_seq_k (fun K7 hK7 => ?_)
    refine wp_seq_k (fun K8 hK8 => ?_)
    refine wp_region_lit ?_
    refine l_q rfl rfl (q_moveI rfl) ?_
    refine l_q rfl rfl (q_moveS rfl) ?_
    refine l_q rfl rfl (q_lenSl (e := 41) rfl (by kernel_rfl)) ?_
    refine l_q rfl rfl (q_lss rfl rfl) ?_
    refine l_nil ?_
    refine hK8 _ _ ?_
    refine c_cond rfl (fun hc9 => ?_) (fun hc9 => ?_)
    ·
      have hc9b := hc9
      try simp only [decide_eq_true_eq, decide_eq_false_iff_not, Bool.not_eq_true', Bool.not_eq_false', Bool.and_eq_true, Bool.or_eq_true, Int.not_lt, Int.not_le, ne_eq, Decidable.not_not] at hc9
      refine wp_skip ?_
      refine hK7 _ _ ?_
      refine wp_seq_k (fun K10 hK10 => ?_)
      refine wp_block ?_
      refine r_any (by kernel_rfl) hS6 (fun w11 hS11 => ?_)
      clear hS6
      refine o_pure (i := 0) (fun _ _ => trivial) rfl rfl (by kernel_rfl) (goes0 rfl) (QOk.inBlock (QOk.then (QOk.then (QOk.inBlock (QOk.then QOk.body))))) (fun w => q_moveS rfl) ?_
      refine o_pure (i := 1) (fun _ _ => trivial) rfl rfl (by kernel_rfl) (goes0 rfl) (QOk.inBlock (QOk.then (QOk.then (QOk.inBlock (QOk.then QOk.body))))) (fun w => q_moveS rfl) ?_
      refine o_pure (i := 2) (fun _ _ => trivial) rfl rfl (by kernel_rfl) (goes0 rfl) (QOk.inBlock (QOk.then (QOk.then (QOk.inBlock (QOk.then QOk.body))))) (fun w => q_moveI rfl) ?_
      refine o_pure (i := 3) (fun _ _ => trivial) rfl rfl (by kernel_rfl) (goes0 rfl) (QOk.inBlock (QOk.then (QOk.then (QOk.inBlock (QOk.then QOk.body))))) (fun w => q_ixG (e := 41) (m := 2) (j := i) rfl rfl (by kernel_rfl) (by kernel_rfl) (by first | rfl | omega) (by omega) hG (by rw [rows_len (c := en) (m := 2) (fun _ => rfl)]; first | omega | (simp only [List.length_append, List.length_map, List.length_cons, List.length_nil, List.length_take, List.length_drop, List.length_set] <;> omega))) ?_
      refine o_pure (i := 4) (fun _ _ => trivial) rfl rfl (by kernel_rfl) (goes0 rfl) (QOk.inBlock (QOk.then (QOk.then (QOk.inBlock (QOk.then QOk.body))))) (fun w => q_fieldG (ft := 23) (o := 0) rfl (by kernel_rfl)) ?_
      obtain ⟨x12, hx12⟩ : ∃ x, (es)[i]? = some x := ⟨_, List.getElem?_eq_getElem (by first | omega | (simp only [List.length_append, List.length_map, List.length_cons, List.length_nil, List.length_take, List.length_drop, List.length_set] <;> omega) | (simp <;> omega))⟩
      refine o_held (i := 5) [6, 13, 14, 15, 16] (fun _ _ => trivial) rfl rfl (by kernel_rfl) (goes0 rfl) (QOk.inBlock (QOk.then (QOk.then (QOk.inBlock (QOk.then QOk.body))))) (q_load1 rfl (by kernel_rfl) (SlG.cell (hG.mono hS11.base) (Gle.refl _) (row_at hx12 (c := en) (m := 2) (fun _ => rfl) (j := 0) rfl))) ?_
      refine o_held (i := 6) [13, 14, 15, 16] (fun j w => ⟨(fun _ _ => trivial) j w, fun _ h => h⟩) rfl rfl (by kernel_rfl) (goes0 rfl) (QOk.inBlock (QOk.then (QOk.then (QOk.inBlock (QOk.then QOk.body))))) (q_convBS (l := x12.kb) rfl ((hok x12 (List.mem_of_getElem? hx12)).1.mono hS11.base) (by first | omega | (simp only [List.length_append, List.length_map, List.length_cons, List.length_nil, List.length_take, List.length_drop, List.length_set] <;> omega)) (by kernel_rfl) (by kernel_rfl)) ?_
      refine o_pure (i := 7) (fun j w => ⟨(fun j w => ⟨(fun _ _ => trivial) j w, fun _ h => h⟩) j w, fun _ h => h⟩) rfl rfl (by kernel_rfl) (goes0 rfl) (QOk.inBlock (QOk.then (QOk.then (QOk.inBlock (QOk.then QOk.body))))) (fun w => q_moveS rfl) ?_
      refine o_pure (i := 8) (fun j w => ⟨(fun j w => ⟨(fun _ _ => trivial) j w, fun _ h => h⟩) j w, fun _ h => h⟩) rfl rfl (by kernel_rfl) (goes0 rfl) (QOk.inBlock (QOk.then (QOk.then (QOk.inBlock (QOk.then QOk.body))))) (fun w => q_moveI rfl) ?_
      refine o_pure (i := 9) (fun j w => ⟨(fun j w => ⟨(fun _ _ => trivial) j w, fun _ h => h⟩) j w, fun _ h => h⟩) rfl rfl (by kernel_rfl) (goes0 rfl) (QOk.inBlock (QOk.then (QOk.then (QOk.inBlock (QOk.then QOk.body))))) (fun w => q_ixG (e := 41) (m := 2) (j := i) rfl rfl (by kernel_rfl) (by kernel_rfl) (by first | rfl | omega) (by omega) hG (by rw [rows_len (c := en) (m := 2) (fun _ => rfl)]; first | omega | (simp only [List.length_append, List.length_map, List.length_cons, List.length_nil, List.length_take, List.length_drop, List.length_set] <;> omega))) ?_
      refine o_pure (i := 10) (fun j w => ⟨(fun j w => ⟨(fun _ _ => trivial) j w, fun _ h => h⟩) j w, fun _ h => h⟩) rfl rfl (by kernel_rfl) (goes0 rfl) (QOk.inBlock (QOk.then (QOk.then (QOk.inBlock (QOk.then QOk.body))))) (fun w => q_fieldG (ft := 23) (o := 1) rfl (by kernel_rfl)) ?_
      refine o_held (i := 11) [12, 13, 14, 15, 16] (fun j w => ⟨(fun j w => ⟨(fun _ _ => trivial) j w, fun _ h => h⟩) j w, fun _ h => h⟩) rfl rfl (by kernel_rfl) (goes0 rfl) (QOk.inBlock (QOk.then (QOk.then (QOk.inBlock (QOk.then QOk.body))))) (q_load1 rfl (by kernel_rfl) (SlG.cell (hG.mono hS11.base) (Gle.refl _) (row_at hx12 (c := en) (m := 2) (fun _ => rfl) (j := 1) rfl))) ?_
      refine o_held (i := 12) [13, 14, 15, 16] (fun j w => ⟨(fun j w => ⟨(fun j w => ⟨(fun _ _ => trivial) j w, fun _ h => h⟩) j w, fun _ h => h⟩) j w, fun _ h => h⟩) rfl rfl (by kernel_rfl) (goes0 rfl) (QOk.inBlock (QOk.then (QOk.then (QOk.inBlock (QOk.then QOk.body))))) (q_convBS (l := x12.rb) rfl ((hok x12 (List.mem_of_getElem? hx12)).2.2.1.mono hS11.base) (by first | omega | (simp only [List.length_append, List.length_map, List.length_cons, List.length_nil, List.length_take, List.length_drop, List.length_set] <;> omega)) (by kernel_rfl) (by kernel_rfl)) ?_
      refine o_pure (i := 13) (fun j w => ⟨(fun j w => ⟨(fun j w => ⟨(fun j w => ⟨(fun _ _ => trivial) j w, fun _ h => h⟩) j w, fun _ h => h⟩) j w, fun _ h => h⟩) j w, fun _ h => h⟩) rfl rfl (by kernel_rfl) (goes0 rfl) (QOk.inBlock (QOk.then (QOk.then (QOk.inBlock (QOk.then QOk.body))))) (fun w => q_build (ps := [(0, 1), (1, 1)]) (zv := .agg #[.string ⟨#[]⟩, .string ⟨#[]⟩]) (by kernel_rfl) (by kernel_rfl) rfl (by repeat' (first | exact trivial | refine ⟨fun _ => by first | rfl | assumption | exact one_if (by assumption), ?_⟩ | refine ⟨fun ⟨_, h⟩ => by simp at h, ?_⟩)) rfl) ?_
      refine o_eff (i := 14) (by kernel_rfl) rfl (goes0 rfl) (fun K hK => ?_)
      refine e_buildSliceA (e := 36) (m := 2) (zv := .agg #[.string ⟨#[]⟩, .string ⟨#[]⟩]) hS11 (by kernel_rfl) (by kernel_rfl) (by kernel_rfl) rfl rfl rfl rfl (fun b13 w13 (hS13 : St _ _ [.blk b13 (.cells #[.string (bs x12.kb), .string (bs x12.rb)] 36), .ow 36 2 oa ((List.map En.kv (es.take i)).length) oc (List.flatMap re (List.map En.kv (es.take i)))] _) => ?_)
      clear hS11
      have hS13o : St _ _ [.ow 36 2 (some ⟨b13, 0, none⟩) 1 1 (List.flatMap re [(x12.kb, x12.rb)]), .ow 36 2 oa ((List.map En.kv (es.take i)).length) oc (List.flatMap re (List.map En.kv (es.take i)))] _ := hS13.blkOw' (i := 0) (m := 1) (size := 2) (xs := List.flatMap re [(x12.kb, x12.rb)]) rfl rfl rfl (by decide); clear hS13
      refine hK _ _ ⟨⟨⟨⟨trivial, fun h => absurd h (by decide)⟩, fun h => absurd h (by decide)⟩, fun h => absurd h (by decide)⟩, fun h => absurd h (by decide)⟩ ?_; clear hK K
      refine o_eff (i := 15) (by kernel_rfl) rfl (goes0 rfl) (fun K hK => ?_)
      refine e_app (e := 36) (size := 2) (bytes := 32) (i := 1) (m' := ((List.map En.kv (es.take i)) ++ [(x12.kb, x12.rb)]).length) (by kernel_rfl) hS13o rfl rfl rfl (SlG.src (e := 36) (by kernel_rfl) (hS13o.owG (i := 0) rfl) ((rows_len (c := re) (m := 2) (fun _ => rfl) _).trans (by first | rfl | (simp only [List.length_append, List.length_map, List.length_cons, List.length_nil, List.length_take, List.length_drop, List.length_set]; done) | (simp only [List.length_append, List.length_map, List.length_cons, List.length_nil, List.length_take, List.length_drop, List.length_set]; omega) | omega)) (by decide) (rows_one re_ones)) (by first | omega | (simp only [List.length_append, List.length_map, List.length_cons, List.length_nil, List.length_take, List.length_drop, List.length_set] <;> omega) | (simp; done)) rows_app (by first | omega | (simp only [maxLen, List.length_append, List.length_map, List.length_cons, List.length_nil, List.length_take, List.length_drop, List.length_set] <;> omega) | (simp only [maxLen]; omega)) (by first | omega | (simp only [List.length_append, List.length_map, List.length_cons, List.length_nil, List.length_take, List.length_drop, List.length_set] <;> omega)) (fun ad14 cp14 w14 (hS14 : St _ _ [.ow 36 2 (some ⟨b13, 0, none⟩) 1 1 (List.flatMap re [(x12.kb, x12.rb)]), .ow 36 2 ad14 (((List.map En.kv (es.take i)) ++ [(x12.kb, x12.rb)]).length) cp14 (List.flatMap re ((List.map En.kv (es.take i)) ++ [(x12.kb, x12.rb)]))] _) => ?_)
      clear hS13o
      refine hK _ _ ⟨⟨⟨⟨trivial, fun h => absurd h (by decide)⟩, fun h => absurd h (by decide)⟩, fun h => absurd h (by decide)⟩, fun h => absurd h (by decide)⟩ ?_; clear hK K
      refine o_pure (i := 16) (fun j w => ⟨(fun j w => ⟨(fun j w => ⟨(fun j w => ⟨(fun _ _ => trivial) j w, fun _ h => h⟩) j w, fun _ h => h⟩) j w, fun _ h => h⟩) j w, fun _ h => h⟩) rfl rfl (by kernel_rfl) (goes0 rfl) (QOk.inBlock (QOk.then (QOk.then (QOk.inBlock (QOk.then QOk.body))))) (fun w => q_assignS rfl) ?_
      refine o_done (by kernel_rfl) ?_
      refine hK10 _ _ ?_
      refine wp_region_lit ?_
      refine l_q rfl rfl (q_moveI rfl) ?_
      refine l_q rfl rfl (q_addx rfl rfl (by first | decide | omega) (by first | decide | omega)) ?_
      refine l_q rfl rfl (q_assignI rfl) ?_
      refine l_nil ?_
      have hS15 : St _ _ [.ow 36 2 (some ⟨b13, 0, none⟩) 1 1 (List.flatMap re [(x12.kb, x12.rb)]), .ow 36 2 ad14 ((List.map En.kv (es.take (i + 1))).length) cp14 (List.flatMap re (List.map En.kv (es.take (i + 1))))] _ := hS14.cast (by rw [kv_take hx12]); clear hS14
      have hxX := hx12
      have hS16 := hS15.fr1; clear hS15
      have hS17 : St _ _ [.ow 36 2 ad14 ((List.map En.kv (es.take (i + 1))).length) cp14 (List.flatMap re (List.map En.kv (es.take (i + 1))))] _ := hS16.only 1; clear hS16
      refine hK6 _ _ (came (⟨(i + 1), ad14, cp14⟩) (by repeat' (first | exact Agree.refl _ _ | refine Agree.up ?_ rfl | refine Agree.hav2 ?_ rfl | refine Agree.ups2 ?_ rfl)) (by repeat' (first | exact trivial | refine ⟨by first | rfl | exact int_succ _ | assumption | (rw [kv_take hxX]; rfl), ?_⟩)) ?_)
      exact ⟨⟨hS17, (by show i + 1 ≤ es.length; omega)⟩, by (show es.length - (i + 1) < es.length - i); omega⟩
    ·
      have hc9b := hc9
      try simp only [decide_eq_true_eq, decide_eq_false_iff_not, Bool.not_eq_true', Bool.not_eq_false', Bool.and_eq_true, Bool.or_eq_true, Int.not_lt, Int.not_le, ne_eq, Decidable.not_not] at hc9
      refine wp_exit ?_
      refine hK3 _ _ ?_
      refine wp_seq_k (fun K18 hK18 => ?_)
      refine wp_region_lit ?_
      refine l_q rfl rfl (q_moveS rfl) ?_
      refine l_q rfl rfl (q_assignS rfl) ?_
      refine l_nil ?_
      refine hK18 _ _ ?_
      refine wp_ret ?_
      refine c_ret1 rfl rfl ?_
      have hd : es.take i = es := List.take_of_length_le (by omega)
      rw [hd] at hS6
      exact ⟨_, _, rfl, ⟨oa, oc, congrArg (fun l : List En => Value.slice oa (l.map En.kv).length oc) hd, rfl⟩, hS6⟩

end Go.Proofs.Ytmbbkliekgiolaa
