/- law07: WalTail. -/
import Derived.Test.YtmbbkliekgiolaaVe
import Derived.Test.YtmbbkliekgiolaaH2
set_option linter.unusedVariables false
set_option linter.unusedSimpArgs false
namespace Go.Proofs.Ytmbbkliekgiolaa
open Go.RowKit
/-- What holds of the program's log and disk. -/
def QInv (g : Gh) (rs : List Rc) (l : List Nat) (b s N : Nat) : Prop := RsOk g rs ∧ Bytes l ∧ s ≤ l.length ∧ b + l.length ≤ N ∧ Whole l b (rs.map Rc.abs)
theorem QInv.more {g : Gh} {rs : List Rc} {l : List Nat} {b s N M : Nat} (h : QInv g rs l b s N) (hM : N ≤ M) : QInv g rs l b s M := ⟨h.1, h.2.1, h.2.2.1, Nat.le_trans h.2.2.2.1 hM, h.2.2.2.2⟩
theorem QInv.start {g : Gh} {rs : List Rc} (h : rs.map Rc.abs = []) (hr : RsOk g rs) : QInv g rs [] 0 0 0 := ⟨hr, Bytes.nil, Nat.le_refl _, Nat.le_refl _, by rw [h]; exact whole_nil _⟩
theorem QInv.opened {g : Gh} {rs : List Rc} {L : List Nat} {b N : Nat} (h1 : RsOk g rs) (ha : rs.map Rc.abs = (scan L b).1) (hB : Bytes L) (hN : b + L.length ≤ N) : QInv g rs (L.take (scan L b).2) b (scan L b).2 N := by
  have hle := scan_le L.length L b (Nat.le_refl _)
  have hl : (L.take (scan L b).2).length = (scan L b).2 := by rw [List.length_take]; omega
  exact ⟨h1, hB.take, by omega, by omega, by rw [ha]; exact whole_scan _ _ _ (Nat.le_refl _)⟩
theorem QInv.synced {g : Gh} {rs : List Rc} {l : List Nat} {b s N : Nat} (h : QInv g rs l b s N) : QInv g rs l b l.length N := ⟨h.1, h.2.1, Nat.le_refl _, h.2.2.2⟩
theorem QInv.appended {g g' : Gh} {rs rs' : List Rc} {l m : List Nat} {b s N M : Nat} (h : QInv g rs l b s N) (h1 : RsOk g' rs') (ha : rs'.map Rc.abs = waR (rs.map Rc.abs) l m b) (hm : Bytes m) (hM : N + m.length + 5 ≤ M) : QInv g' rs' (waL l m) b s M := by
  obtain ⟨_, k2, k3, k4, k5⟩ := h
  have hL := waL_len l m
  exact ⟨h1, waL_bytes k2 hm, by omega, by omega, by rw [ha]; exact whole_wa k5⟩
theorem QInv.trimmed {g : Gh} {rs : List Rc} {l : List Nat} {b s N : Nat} {z : Int} (h : QInv g rs l b s N) : QInv g (trR rs l b s z) (trL rs l b s z) (trB rs l b s z) (trS rs l b s z) N := by
  obtain ⟨k1, k2, k3, k4, k5⟩ := h
  have hf := tr_fit rs l b s z k3
  exact ⟨trR_ok k1 _ _ _ _, trL_bytes _ k2 _ _ _, by omega, by omega, whole_tr k5⟩
/-- What stands behind is cut. -/
theorem tail_cut {l t : List Nat} {R : List (Nat × List Nat)} (h : Whole l 0 R) (hl : l.length + (0 :: t).length ≤ 1048576) : scan (apL l (0 :: t)) 0 = (R, l.length) ∧ (apL l (0 :: t)).take l.length = l := by
  have hap : apL l (0 :: t) = l ++ 0 :: t := if_pos hl
  have h2 : (scan l 0).2 = l.length := by rw [show scan l 0 = (R, l.length) from h]
  have ht : tkN (0 :: t) = none := by
    unfold tkN
    exact if_pos (.inr (by simp))
  have h1 := scan_app l.length l (0 :: t) 0 (Nat.le_refl _) h2
  rw [show scan l 0 = (R, l.length) from h, scan_none ht] at h1
  rw [hap]
  refine ⟨by rw [h1]; simp, List.take_left' rfl⟩
theorem tail_cnt {l : List Nat} {rs : List Rc} {b : Nat} (h : Whole l b (rs.map Rc.abs)) : cnt (b + l.length) rs = rs.length := by
  unfold cnt
  rw [List.countP_eq_length]
  intro r hr
  have := (h.len.2 _ (abs_mem hr rfl)).2
  exact decide_eq_true this
theorem tail_rd {l m : List Nat} {R : List (Nat × List Nat)} {b : Nat} (h : Whole l b R) (hm : waOk m) : rdO (R ++ [(b + l.length, m)]) (((b + l.length : Nat) : Nat) : Int) = some m := by
  have h1 := (h.app hm).inc.find (i := R.length) (r := (b + l.length, m)) (by simp)
  exact h1
theorem tail_new {l m : List Nat} {R R' : List (Nat × List Nat)} {b : Nat} (h : Whole l b R) (h1 : 1 ≤ m.length) (h2 : l.length + m.length ≤ 1000000) (h3 : m.length ≤ 4096) (hR : R' = waR R l m b) : waN l m b = b + l.length ∧ waE l m = 0 ∧ rdE R' ((waN l m b : Nat) : Int) = 0 ∧ rdB R' ((waN l m b : Nat) : Int) = m := by
  have hw : waOk m := ⟨h1, h3⟩
  have hE : apE l (fr m) = 0 := if_pos (by rw [fr_len]; omega)
  have hN : apN l (fr m) b = b + l.length := if_pos (by rw [fr_len]; omega)
  have e1 : waN l m b = b + l.length := by rw [waN, if_pos hw, hN]
  have e2 : waE l m = 0 := by rw [waE, if_pos hw, hE]
  rw [waR, if_pos ⟨hw, hE⟩] at hR
  subst hR
  refine ⟨e1, e2, ?_, ?_⟩
  · rw [e1]; unfold rdE; rw [tail_rd h hw]; rfl
  · rw [e1]; unfold rdB; rw [tail_rd h hw]; rfl
attribute [local irreducible] Oper.wp Sem.run Code.wp wpList wpAnyO callFunc execOp Calls
attribute [local irreducible] scan waE waN waL waR crc cnt rdE rdB fr apE apN apL trE trR trL trB trS tri fIdx numN sameB pwN Whole

set_option maxHeartbeats 4000000 in
set_option maxRecDepth 100000 in
theorem walTail_ok (L : List Sb) (la : Option Addr) (lc : Nat) (t : List Nat) (ta : Option Addr) (tc : Nat) (m : List Nat) (ma : Option Addr) (mc : Nat) (ht : Bytes t) (hm : Bytes m) (w : World) (hG : SlG (hw w) la (List.flatMap sb L)) (hok : ∀ a ∈ L, SbG (hw w) a) (hGt : SlG (hw w) ta (bv t)) (hGm : SlG (hw w) ma (bv m)) : Calls Try.prog 7 #[.slice la L.length lc, .slice ta t.length tc, .slice ma m.length mc] w (PostR w fun v => v = .bool true) := by
  have hS := St.start w
  refine c_enter Try.func7 rfl rfl rfl ?_
  refine wp_seq_k (fun K1 hK1 => ?_)
  refine wp_region_lit ?_
  refine l_q rfl rfl (q_assignB rfl) ?_
  refine l_nil ?_
  refine hK1 _ _ ?_
  refine wp_seq_k (fun K2 hK2 => ?_)
  have hS3 := hS.fz0; clear hS
  refine wp_region_lit ?_
  refine l_e rfl (fun K hK => ?_)
  refine e_call (by kernel_rfl) (dNew_ok _) rfl (after_N hS3 (fun v4 G4 w4 hv4 hS4 => ?_))
  clear hS3
  obtain ⟨k4, rfl, rfl⟩ := hv4
  have hS5 : St _ _ [dk k4 none 0 [] 0 0, .fz (fun _ => none)] _ := hS4; clear hS4
  refine hK _ _ ?_; clear hK K
  refine l_q rfl rfl (q_assignP rfl) ?_
  refine l_nil ?_
  refine hK2 _ _ ?_
  refine wp_seq_k (fun K6 hK6 => ?_)
  refine wp_region_lit ?_
  refine l_q rfl rfl (q_moveP rfl) ?_
  refine l_e rfl (fun K hK => ?_)
  have hsl7 := scan_le [].length [] 0 (Nat.le_refl _)
  refine e_call (by kernel_rfl) (wOpen_ok _ _ _ _ _ _ _ Bytes.nil (by first | omega | (simp only [List.length_append, List.length_map, List.length_cons, List.length_nil, List.length_take, List.length_drop, List.length_set] <;> omega)) (by first | omega | (simp only [List.length_append, List.length_map, List.length_cons, List.length_nil, List.length_take, List.length_drop, List.length_set] <;> omega)) (by first | omega | (simp only [List.length_append, List.length_map, List.length_cons, List.length_nil, List.length_take, List.length_drop, List.length_set] <;> omega)) _ (St.begin (Γ := [_, _]) hS5)) rfl (after_M (Γ1 := [_, _]) hS5 (fun v7 G7 w7 hv7 hS7 => ?_))
  clear hS5
  obtain ⟨k7, ad7, cp7, rs7, da7, dc7, g7, rfl, rfl, hle7, hrs7, hab7⟩ := hv7
  have hS8 : St _ _ [wk k7 k4 ad7 cp7 rs7, dk k4 da7 dc7 ([].take (scan [] 0).2) 0 ((scan [] 0).2), .fz g7] _ := hS7; clear hS7
  refine hK _ _ ?_; clear hK K
  refine l_q rfl rfl (q_move rfl) ?_
  refine l_q rfl rfl (q_extract rfl rfl) ?_
  refine l_q rfl rfl (q_extract rfl rfl) ?_
  refine l_q rfl rfl (q_assignP rfl) ?_
  have hr0 : rs7.map Rc.abs = [] := by rw [hab7, scan0]
  have hrl : rs7.length = 0 := by have := congrArg List.length hr0; simpa using this
  have hS9 : St _ _ [wk k7 k4 ad7 cp7 rs7, dk k4 da7 dc7 [] 0 0, .fz g7] _ := hS8.cast (by rw [scan0]; rfl); clear hS8
  refine l_q rfl rfl (q_assignI rfl) ?_
  refine l_nil ?_
  refine hK6 _ _ ?_
  refine wp_seq_k (fun K10 hK10 => ?_)
  refine wp_seq_k (fun K11 hK11 => ?_)
  refine wp_region_lit ?_
  refine l_e rfl (fun K hK => ?_)
  refine e_call (by kernel_rfl) (alive7_ok _) rfl (after_R hS9 (fun v12 w12 hv12 hS12 => ?_))
  clear hS9
  obtain rfl := hv12
  refine hK _ _ ?_; clear hK K
  refine l_q rfl rfl (q_not rfl) ?_
  refine l_q rfl rfl (q_moveB rfl) ?_
  refine l_on rfl rfl rfl ?_
  refine l_q rfl rfl (q_moveI rfl) ?_
  refine l_on rfl rfl rfl ?_
  refine l_q rfl rfl (q_neq rfl rfl) ?_
  refine l_q rfl rfl (q_pickF rfl rfl rfl) ?_
  refine l_q rfl rfl (q_moveB rfl) ?_
  refine l_on rfl rfl (by decide) ?_
  refine l_q rfl rfl (q_moveP rfl) ?_
  refine l_on rfl rfl (by decide) ?_
  refine l_q rfl rfl (q_peq rfl (by kernel_rfl)) ?_
  refine l_q rfl rfl (q_pickF rfl (by decide) rfl) ?_
  refine l_nil ?_
  refine hK11 _ _ ?_
  refine c_condF rfl rfl ?_
  refine wp_skip ?_
  refine hK10 _ _ ?_
  refine wp_seq_k (fun K14 hK14 => ?_)
  refine wp_seq_k (fun K15 hK15 => ?_)
  refine wp_region_lit ?_
  refine l_q rfl rfl (q_moveS rfl) ?_
  refine l_q rfl rfl (q_lenSl (e := 23) rfl (by kernel_rfl)) ?_
  refine l_q rfl rfl (q_gtr rfl rfl) ?_
  refine l_q rfl rfl (q_moveB rfl) ?_
  refine g_splitL (t := 38) rfl (fun hg16 => ?_) (fun hg16 => ?_)
  ·
    have hg16b := hg16
    try simp only [decide_eq_true_eq, decide_eq_false_iff_not, Bool.not_eq_true', Bool.not_eq_false', Bool.and_eq_true, Bool.or_eq_true, Int.not_lt, Int.not_le, ne_eq, Decidable.not_not] at hg16
    refine l_off rfl rfl rfl hg16b ?_
    refine l_off rfl rfl rfl hg16b ?_
    refine l_off rfl rfl rfl hg16b ?_
    refine l_q rfl rfl (q_pickT rfl hg16b rfl) ?_
    refine l_q rfl rfl (q_moveB rfl) ?_
    refine l_off rfl rfl rfl rfl ?_
    refine l_off rfl rfl rfl rfl ?_
    refine l_off rfl rfl rfl rfl ?_
    refine l_q rfl rfl (q_pickT rfl rfl rfl) ?_
    refine l_q rfl rfl (q_moveB rfl) ?_
    refine l_off rfl rfl rfl rfl ?_
    refine l_off rfl rfl rfl rfl ?_
    refine l_off rfl rfl rfl rfl ?_
    refine l_q rfl rfl (q_pickT rfl rfl rfl) ?_
    refine l_nil ?_
    refine hK15 _ _ ?_
    refine c_condT rfl rfl ?_
    refine wp_seq_k (fun K18 hK18 => ?_)
    refine wp_region_lit ?_
    refine l_q rfl rfl (q_assignB rfl) ?_
    refine l_nil ?_
    refine hK18 _ _ ?_
    refine wp_ret ?_
    refine c_ret1 rfl rfl ?_
    exact ⟨_, rfl, rfl, hS12.drop⟩
  ·
    have hg16b := hg16
    try simp only [decide_eq_true_eq, decide_eq_false_iff_not, Bool.not_eq_true', Bool.not_eq_false', Bool.and_eq_true, Bool.or_eq_true, Int.not_lt, Int.not_le, ne_eq, Decidable.not_not] at hg16
    refine l_on rfl rfl hg16b ?_
    refine l_q rfl rfl (q_moveS rfl) ?_
    refine l_on rfl rfl hg16b ?_
    refine l_q rfl rfl (q_lenSl (e := 5) rfl (by kernel_rfl)) ?_
    refine l_on rfl rfl hg16b ?_
    refine l_q rfl rfl (q_gtr rfl rfl) ?_
    refine l_q rfl rfl (q_pickF rfl hg16b rfl) ?_
    refine l_q rfl rfl (q_moveB rfl) ?_
    refine g_splitL (t := 43) rfl (fun hg19 => ?_) (fun hg19 => ?_)
    ·
      have hg19b := hg19
      try simp only [decide_eq_true_eq, decide_eq_false_iff_not, Bool.not_eq_true', Bool.not_eq_false', Bool.and_eq_true, Bool.or_eq_true, Int.not_lt, Int.not_le, ne_eq, Decidable.not_not] at hg19
      refine l_off rfl rfl rfl hg19b ?_
      refine l_off rfl rfl rfl hg19b ?_
      refine l_off rfl rfl rfl hg19b ?_
      refine l_q rfl rfl (q_pickT rfl hg19b rfl) ?_
      refine l_q rfl rfl (q_moveB rfl) ?_
      refine l_off rfl rfl rfl rfl ?_
      refine l_off rfl rfl rfl rfl ?_
      refine l_off rfl rfl rfl rfl ?_
      refine l_q rfl rfl (q_pickT rfl rfl rfl) ?_
      refine l_nil ?_
      refine hK15 _ _ ?_
      refine c_condT rfl rfl ?_
      refine wp_seq_k (fun K21 hK21 => ?_)
      refine wp_region_lit ?_
      refine l_q rfl rfl (q_assignB rfl) ?_
      refine l_nil ?_
      refine hK21 _ _ ?_
      refine wp_ret ?_
      refine c_ret1 rfl rfl ?_
      exact ⟨_, rfl, rfl, hS12.drop⟩
    ·
      have hg19b := hg19
      try simp only [decide_eq_true_eq, decide_eq_false_iff_not, Bool.not_eq_true', Bool.not_eq_false', Bool.and_eq_true, Bool.or_eq_true, Int.not_lt, Int.not_le, ne_eq, Decidable.not_not] at hg19
      refine l_on rfl rfl hg19b ?_
      refine l_q rfl rfl (q_moveS rfl) ?_
      refine l_on rfl rfl hg19b ?_
      refine l_q rfl rfl (q_lenSl (e := 5) rfl (by kernel_rfl)) ?_
      refine l_on rfl rfl hg19b ?_
      refine l_q rfl rfl (q_gtr rfl rfl) ?_
      refine l_q rfl rfl (q_pickF rfl hg19b rfl) ?_
      refine l_q rfl rfl (q_moveB rfl) ?_
      refine g_splitL (t := 48) rfl (fun hg22 => ?_) (fun hg22 => ?_)
      ·
        have hg22b := hg22
        try simp only [decide_eq_true_eq, decide_eq_false_iff_not, Bool.not_eq_true', Bool.not_eq_false', Bool.and_eq_true, Bool.or_eq_true, Int.not_lt, Int.not_le, ne_eq, Decidable.not_not] at hg22
        refine l_off rfl rfl rfl hg22b ?_
        refine l_off rfl rfl rfl hg22b ?_
        refine l_off rfl rfl rfl hg22b ?_
        refine l_q rfl rfl (q_pickT rfl hg22b rfl) ?_
        refine l_nil ?_
        refine hK15 _ _ ?_
        refine c_condT rfl rfl ?_
        refine wp_seq_k (fun K24 hK24 => ?_)
        refine wp_region_lit ?_
        refine l_q rfl rfl (q_assignB rfl) ?_
        refine l_nil ?_
        refine hK24 _ _ ?_
        refine wp_ret ?_
        refine c_ret1 rfl rfl ?_
        exact ⟨_, rfl, rfl, hS12.drop⟩
      ·
        have hg22b := hg22
        try simp only [decide_eq_true_eq, decide_eq_false_iff_not, Bool.not_eq_true', Bool.not_eq_false', Bool.and_eq_true, Bool.or_eq_true, Int.not_lt, Int.not_le, ne_eq, Decidable.not_not] at hg22
        refine l_on rfl rfl hg22b ?_
        refine l_q rfl rfl (q_moveS rfl) ?_
        refine l_on rfl rfl hg22b ?_
        refine l_q rfl rfl (q_lenSl (e := 5) rfl (by kernel_rfl)) ?_
        refine l_on rfl rfl hg22b ?_
        refine l_q rfl rfl (q_eql rfl rfl) ?_
        refine l_q rfl rfl (q_pickF rfl hg22b rfl) ?_
        refine l_nil ?_
        refine hK15 _ _ ?_
        refine c_cond rfl (fun hc25 => ?_) (fun hc25 => ?_)
        ·
          have hc25b := hc25
          try simp only [decide_eq_true_eq, decide_eq_false_iff_not, Bool.not_eq_true', Bool.not_eq_false', Bool.and_eq_true, Bool.or_eq_true, Int.not_lt, Int.not_le, ne_eq, Decidable.not_not] at hc25
          refine wp_seq_k (fun K26 hK26 => ?_)
          refine wp_region_lit ?_
          refine l_q rfl rfl (q_assignB rfl) ?_
          refine l_nil ?_
          refine hK26 _ _ ?_
          refine wp_ret ?_
          refine c_ret1 rfl rfl ?_
          exact ⟨_, rfl, rfl, hS12.drop⟩
        ·
          have hc25b := hc25
          try simp only [decide_eq_true_eq, decide_eq_false_iff_not, Bool.not_eq_true', Bool.not_eq_false', Bool.and_eq_true, Bool.or_eq_true, Int.not_lt, Int.not_le, ne_eq, Decidable.not_not] at hc25
          refine wp_skip ?_
          refine hK14 _ _ ?_
          refine wp_seq_k (fun K27 hK27 => ?_)
          refine wp_seq_k (fun K28 hK28 => ?_)
          refine wp_region_lit ?_
          refine l_q rfl rfl (q_assignI rfl) ?_
          refine l_nil ?_
          refine hK28 _ _ ?_
          refine wp_block ?_
          refine c_loop (τ := (Option Addr) × (Option Addr) × Nat × Nat × (List Rc) × (List Nat) × Gh × Nat) [(10, 10), (53, 70)] (fun x => (fun (da : Option Addr) (ad : Option Addr) (dc : Nat) (cap : Nat) (rs : List Rc) (l : List Nat) (g : Gh) (i : Nat) => [(10, .int .i64 ((i : Nat) : Int))]) x.1 x.2.1 x.2.2.1 x.2.2.2.1 x.2.2.2.2.1 x.2.2.2.2.2.1 x.2.2.2.2.2.2.1 x.2.2.2.2.2.2.2) (fun x w' => (fun (da : Option Addr) (ad : Option Addr) (dc : Nat) (cap : Nat) (rs : List Rc) (l : List Nat) (g : Gh) (i : Nat) => St w (fun _ => False) [wk k7 k4 ad cap rs, dk k4 da dc l 0 0, .fz g] w' ∧ i ≤ L.length ∧ QInv g rs l 0 0 (305 * i)) x.1 x.2.1 x.2.2.1 x.2.2.2.1 x.2.2.2.2.1 x.2.2.2.2.2.1 x.2.2.2.2.2.2.1 x.2.2.2.2.2.2.2) (fun x => (fun (da : Option Addr) (ad : Option Addr) (dc : Nat) (cap : Nat) (rs : List Rc) (l : List Nat) (g : Gh) (i : Nat) => L.length - i) x.1 x.2.1 x.2.2.1 x.2.2.2.1 x.2.2.2.2.1 x.2.2.2.2.2.1 x.2.2.2.2.2.2.1 x.2.2.2.2.2.2.2) (⟨da7, ad7, dc7, cp7, rs7, [], g7, 0⟩) ?_ (by repeat' (first | exact trivial | refine ⟨by first | rfl | exact int_succ _ | assumption, ?_⟩)) (fun x29 j29 w29 hJ29 K29 hK29 => ?_)
          ·
            exact ⟨hS12, Nat.zero_le _, QInv.start hr0 hrs7⟩
          ·
            obtain ⟨da, ad, dc, cap, rs, l, g, i⟩ := x29
            obtain ⟨hS29, hi, hI⟩ := hJ29
            try dsimp only at hS29 hi hI ⊢
            obtain ⟨_, _, hIs, hIn, hIw⟩ := id hI
            have hIlt := whole_lt hIw
            have hIl := whole_len hIw
            refine wp_seq_k (fun K30 hK30 => ?_)
            refine wp_seq_k (fun K31 hK31 => ?_)
            refine wp_region_lit ?_
            refine l_q rfl rfl (q_moveI rfl) ?_
            refine l_q rfl rfl (q_moveS rfl) ?_
            refine l_q rfl rfl (q_lenSl (e := 23) rfl (by kernel_rfl)) ?_
            refine l_q rfl rfl (q_lss rfl rfl) ?_
            refine l_nil ?_
            refine hK31 _ _ ?_
            refine c_cond rfl (fun hc32 => ?_) (fun hc32 => ?_)
            ·
              have hc32b := hc32
              try simp only [decide_eq_true_eq, decide_eq_false_iff_not, Bool.not_eq_true', Bool.not_eq_false', Bool.and_eq_true, Bool.or_eq_true, Int.not_lt, Int.not_le, ne_eq, Decidable.not_not] at hc32
              refine wp_skip ?_
              refine hK30 _ _ ?_
              refine wp_seq_k (fun K33 hK33 => ?_)
              refine wp_block ?_
              refine wp_seq_k (fun K34 hK34 => ?_)
              refine wp_region_lit ?_
              refine l_q rfl rfl (q_moveS rfl) ?_
              refine l_q rfl rfl (q_moveI rfl) ?_
              refine l_q rfl rfl (q_ixG (e := 23) (m := 1) (j := i) rfl rfl (by kernel_rfl) (by kernel_rfl) (by first | rfl | omega) (by omega) hG (by rw [rows_len (c := sb) (m := 1) (fun _ => rfl)]; first | omega | (simp only [List.length_append, List.length_map, List.length_cons, List.length_nil, List.length_take, List.length_drop, List.length_set] <;> omega))) ?_
              obtain ⟨x35, hx35⟩ : ∃ x, (L)[i]? = some x := ⟨_, List.getElem?_eq_getElem (by first | omega | (simp only [List.length_append, List.length_map, List.length_cons, List.length_nil, List.length_take, List.length_drop, List.length_set] <;> omega) | (simp <;> omega))⟩
              refine l_q rfl rfl (q_load1 rfl (by kernel_rfl) (SlG.cell (hG.mono hS29.base) (Gle.refl _) (row_at hx35 (c := sb) (m := 1) (fun _ => rfl) (j := 0) rfl))) ?_
              refine l_q rfl rfl (q_lenSl (e := 5) rfl (by kernel_rfl)) ?_
              refine l_q rfl rfl (q_leq rfl rfl) ?_
              refine l_nil ?_
              refine hK34 _ _ ?_
              refine c_cond rfl (fun hc36 => ?_) (fun hc36 => ?_)
              ·
                have hc36b := hc36
                try simp only [decide_eq_true_eq, decide_eq_false_iff_not, Bool.not_eq_true', Bool.not_eq_false', Bool.and_eq_true, Bool.or_eq_true, Int.not_lt, Int.not_le, ne_eq, Decidable.not_not] at hc36
                refine wp_region_lit ?_
                refine l_q rfl rfl (q_moveP rfl) ?_
                refine l_q rfl rfl (q_moveS rfl) ?_
                refine l_q rfl rfl (q_moveI rfl) ?_
                refine l_q rfl rfl (q_ixG (e := 23) (m := 1) (j := i) rfl rfl (by kernel_rfl) (by kernel_rfl) (by first | rfl | omega) (by omega) hG (by rw [rows_len (c := sb) (m := 1) (fun _ => rfl)]; first | omega | (simp only [List.length_append, List.length_map, List.length_cons, List.length_nil, List.length_take, List.length_drop, List.length_set] <;> omega))) ?_
                refine l_q rfl rfl (q_load1 rfl (by kernel_rfl) (SlG.cell (hG.mono hS29.base) (Gle.refl _) (row_at hx35 (c := sb) (m := 1) (fun _ => rfl) (j := 0) rfl))) ?_
                refine l_e rfl (fun K hK => ?_)
                refine e_call (by kernel_rfl) (wAppend_ok _ _ _ _ _ _ _ _ _ _ _ (by first | omega | (simp only [List.length_append, List.length_map, List.length_cons, List.length_nil, List.length_take, List.length_drop, List.length_set] <;> omega)) hI.2.1 (by first | omega | (simp only [List.length_append, List.length_map, List.length_cons, List.length_nil, List.length_take, List.length_drop, List.length_set] <;> omega)) (by first | omega | (simp only [List.length_append, List.length_map, List.length_cons, List.length_nil, List.length_take, List.length_drop, List.length_set] <;> omega)) hI.1 _ x35.b (hok x35 (List.mem_of_getElem? hx35)).2 _ _ (by first | omega | (simp only [List.length_append, List.length_map, List.length_cons, List.length_nil, List.length_take, List.length_drop, List.length_set] <;> omega)) (hok x35 (List.mem_of_getElem? hx35)).1 _ (St.rogB (Γ1 := [_, _, _]) hS29) (St.begin (Γ := [_, _, _]) hS29)) rfl (after_M (Γ1 := [_, _, _]) hS29 (fun v37 G37 w37 hv37 hS37 => ?_))
                clear hS29
                obtain ⟨ad37, cp37, rs37, da37, dc37, g37, rfl, rfl, hle37, hrs37, hab37⟩ := hv37
                have hS38 : St _ _ [wk k7 k4 ad37 cp37 rs37, dk k4 da37 dc37 (waL l x35.b) 0 0, .fz g37] _ := hS37; clear hS37
                have hL37 := waL_len l x35.b
                refine hK _ _ ?_; clear hK K
                refine l_nil ?_
                refine hK33 _ _ ?_
                refine wp_region_lit ?_
                refine l_q rfl rfl (q_moveI rfl) ?_
                refine l_q rfl rfl (q_addx rfl rfl (by first | decide | omega) (by first | decide | omega)) ?_
                refine l_q rfl rfl (q_assignI rfl) ?_
                refine l_nil ?_
                refine hK29 _ _ (came (⟨da37, ad37, dc37, cp37, rs37, (waL l x35.b), g37, (i + 1)⟩) (by repeat' (first | exact Agree.refl _ _ | refine Agree.up ?_ rfl | refine Agree.hav2 ?_ rfl | refine Agree.ups2 ?_ rfl)) (by repeat' (first | exact trivial | refine ⟨by first | rfl | exact int_succ _ | assumption, ?_⟩)) ?_)
                exact ⟨⟨hS38, (by show i + 1 ≤ L.length; omega), hI.appended hrs37 hab37 (hok x35 (List.mem_of_getElem? hx35)).2 (by show _ ≤ 305 * (i + 1); omega)⟩, by (show L.length - (i + 1) < L.length - i); omega⟩
              ·
                have hc36b := hc36
                try simp only [decide_eq_true_eq, decide_eq_false_iff_not, Bool.not_eq_true', Bool.not_eq_false', Bool.and_eq_true, Bool.or_eq_true, Int.not_lt, Int.not_le, ne_eq, Decidable.not_not] at hc36
                refine wp_skip ?_
                refine hK33 _ _ ?_
                refine wp_region_lit ?_
                refine l_q rfl rfl (q_moveI rfl) ?_
                refine l_q rfl rfl (q_addx rfl rfl (by first | decide | omega) (by first | decide | omega)) ?_
                refine l_q rfl rfl (q_assignI rfl) ?_
                refine l_nil ?_
                refine hK29 _ _ (came (⟨da, ad, dc, cap, rs, l, g, (i + 1)⟩) (by repeat' (first | exact Agree.refl _ _ | refine Agree.up ?_ rfl | refine Agree.hav2 ?_ rfl | refine Agree.ups2 ?_ rfl)) (by repeat' (first | exact trivial | refine ⟨by first | rfl | exact int_succ _ | assumption, ?_⟩)) ?_)
                exact ⟨⟨hS29, (by show i + 1 ≤ L.length; omega), hI.more (by show _ ≤ 305 * (i + 1); omega)⟩, by (show L.length - (i + 1) < L.length - i); omega⟩
            ·
              have hc32b := hc32
              try simp only [decide_eq_true_eq, decide_eq_false_iff_not, Bool.not_eq_true', Bool.not_eq_false', Bool.and_eq_true, Bool.or_eq_true, Int.not_lt, Int.not_le, ne_eq, Decidable.not_not] at hc32
              refine wp_exit ?_
              refine hK27 _ _ ?_
              refine wp_seq_k (fun K39 hK39 => ?_)
              refine wp_region_lit ?_
              refine l_q rfl rfl (q_moveP rfl) ?_
              refine l_e rfl (fun K hK => ?_)
              refine e_call (by kernel_rfl) (wNumbers_ok _ _ _ _ _ (by first | omega | (simp only [List.length_append, List.length_map, List.length_cons, List.length_nil, List.length_take, List.length_drop, List.length_set] <;> omega)) _ (St.begin (Γ := [_]) hS29)) rfl (after_M (Γ1 := [_]) hS29 (fun v40 G40 w40 hv40 hS40 => ?_))
              clear hS29
              obtain ⟨ad40, cp40, rfl, rfl⟩ := hv40
              have hS41 : St _ _ [.ow 3 1 ad40 rs.length cp40 (iv (nums rs)), wk k7 k4 ad cap rs, dk k4 da dc l 0 0, .fz g] _ := hS40; clear hS40
              refine hK _ _ ?_; clear hK K
              refine l_q rfl rfl (q_assignS rfl) ?_
              refine l_nil ?_
              refine hK39 _ _ ?_
              refine wp_seq_k (fun K42 hK42 => ?_)
              refine wp_region_lit ?_
              refine l_q rfl rfl (q_moveP rfl) ?_
              refine l_e rfl (fun K hK => ?_)
              have hS44 := hS41.fr2; clear hS41
              refine e_call (by kernel_rfl) (dEnd_ok _ _ _ _ _ _ hI.2.1 (by first | omega | (simp; omega)) (by first | omega | (simp; omega)) _ (St.begin (Γ := [_]) hS44)) rfl (after_M (Γ1 := [_]) hS44 (fun v43 G43 w43 hv43 hS43 => ?_))
              clear hS44
              obtain ⟨rfl, rfl⟩ := hv43
              have hS45 : St _ _ [dk k4 da dc l 0 0, .ow 3 1 ad40 rs.length cp40 (iv (nums rs)), wk k7 k4 ad cap rs, .fz g] _ := hS43; clear hS43
              refine hK _ _ ?_; clear hK K
              refine l_q rfl rfl (q_assignI rfl) ?_
              refine l_nil ?_
              refine hK42 _ _ ?_
              refine wp_seq_k (fun K46 hK46 => ?_)
              have hM0 : ([0] ++ t).length = t.length + 1 := by simp [Nat.add_comm]
              refine wp_region_lit ?_
              refine l_q rfl rfl (q_moveP rfl) ?_
              refine l_e rfl (fun K hK => ?_)
              refine e_buildSlice1 (e := 5) (zv := .int .u8 0) (xs := [_]) hS45 (by kernel_rfl) (by kernel_rfl) (by kernel_rfl) rfl rfl rfl rfl (allone (by repeat' (first | exact trivial | refine ⟨by first | rfl | assumption, ?_⟩))) rfl (fun b47 w47 (hS47 : St _ _ [.blk b47 (.cells #[.int .u8 (0 : Int)] 5), dk k4 da dc l 0 0, .ow 3 1 ad40 rs.length cp40 (iv (nums rs)), wk k7 k4 ad cap rs, .fz g] _) => ?_)
              clear hS45
              have hB47 : Bytes [0] := by intro q hq; simp only [List.mem_cons, List.not_mem_nil, or_false] at hq; omega
              have hS47o : St _ _ [.ow 5 1 (some ⟨b47, 0, none⟩) 1 1 (bv [0]), dk k4 da dc l 0 0, .ow 3 1 ad40 rs.length cp40 (iv (nums rs)), wk k7 k4 ad cap rs, .fz g] _ := hS47.blkOw' (i := 0) (m := 1) (size := 1) (xs := bv [0]) rfl rfl rfl (by decide); clear hS47
              refine hK _ _ ?_; clear hK K
              refine l_q rfl rfl (q_moveS rfl) ?_
              refine l_e rfl (fun K hK => ?_)
              have hB48 : Bytes ([0] ++ t) := Bytes.app hB47 ht
              refine e_app (e := 5) (size := 1) (bytes := 1) (i := 0) (m' := (1 + t.length)) (by kernel_rfl) hS47o rfl rfl rfl (SlG.src (e := 5) (by kernel_rfl) (hGt.mono hS47o.base) (by first | (simp only [List.length_append, List.length_map, List.length_cons, List.length_nil, List.length_take, List.length_drop, List.length_set, Nat.mul_one]; done) | (simp only [List.length_append, List.length_map, List.length_cons, List.length_nil, List.length_take, List.length_drop, List.length_set]; omega) | rfl | (simp; done)) (by decide) (bv_one _)) (by first | omega | (simp only [List.length_append, List.length_map, List.length_cons, List.length_nil, List.length_take, List.length_drop, List.length_set] <;> omega) | (simp; done)) bv_app (by first | omega | (simp only [maxLen, List.length_append, List.length_map, List.length_cons, List.length_nil, List.length_take, List.length_drop, List.length_set] <;> omega) | (simp only [maxLen]; omega)) (by first | omega | (simp only [List.length_append, List.length_map, List.length_cons, List.length_nil, List.length_take, List.length_drop, List.length_set] <;> omega)) (fun ad48 cp48 w48 (hS48 : St _ _ [.ow 5 1 ad48 (1 + t.length) cp48 (bv ([0] ++ t)), dk k4 da dc l 0 0, .ow 3 1 ad40 rs.length cp40 (iv (nums rs)), wk k7 k4 ad cap rs, .fz g] _) => ?_)
              clear hS47o
              refine hK _ _ ?_; clear hK K
              refine l_e rfl (fun K hK => ?_)
              have hS50 := hS48.fr1; clear hS48
              obtain ⟨g51, hg51, hG51⟩ := St.rogO (Γ1 := [_]) (i := 0) hS50 rfl
              refine e_call (by kernel_rfl) (dAppend_ok _ _ _ _ _ _ hI.2.1 (by first | omega | (simp only [List.length_append, List.length_map, List.length_cons, List.length_nil, List.length_take, List.length_drop, List.length_set] <;> omega)) (by first | omega | (simp only [List.length_append, List.length_map, List.length_cons, List.length_nil, List.length_take, List.length_drop, List.length_set] <;> omega)) _ _ ([0] ++ t) hB48 _ _ hG51 _ hg51 (by first | omega | (simp only [List.length_append, List.length_map, List.length_cons, List.length_nil, List.length_take, List.length_drop, List.length_set] <;> omega)) (by first | omega | (simp only [List.length_append, List.length_map, List.length_cons, List.length_nil, List.length_take, List.length_drop, List.length_set] <;> omega)) (St.begin (Γ := [_]) hS50)) rfl (after_M (Γ1 := [_]) hS50 (fun v49 G49 w49 hv49 hS49 => ?_))
              clear hS50
              obtain ⟨ad49, cp49, rfl, rfl⟩ := hv49
              have hS52 : St _ _ [dk k4 ad49 cp49 (apL l ([0] ++ t)) 0 0, .ow 5 1 ad48 (1 + t.length) cp48 (bv ([0] ++ t)), .ow 3 1 ad40 rs.length cp40 (iv (nums rs)), wk k7 k4 ad cap rs, .fz g] _ := hS49; clear hS49
              have hB49 : Bytes (apL l ([0] ++ t)) := apL_bytes hI.2.1 hB48
              have hL49 := apL_len l ([0] ++ t)
              refine hK _ _ ?_; clear hK K
              refine l_nil ?_
              refine hK46 _ _ ?_
              refine wp_seq_k (fun K53 hK53 => ?_)
              refine wp_region_lit ?_
              refine l_q rfl rfl (q_moveP rfl) ?_
              refine l_e rfl (fun K hK => ?_)
              have hsl54 := scan_le (apL l ([0] ++ t)).length (apL l ([0] ++ t)) 0 (Nat.le_refl _)
              have hS55 := hS52.fr4; clear hS52
              have hS56 := hS55.fr1; clear hS55
              refine e_call (by kernel_rfl) (wOpen_ok _ _ _ _ _ _ _ hB49 (by first | omega | (simp only [List.length_append, List.length_map, List.length_cons, List.length_nil, List.length_take, List.length_drop, List.length_set] <;> omega)) (by first | omega | (simp only [List.length_append, List.length_map, List.length_cons, List.length_nil, List.length_take, List.length_drop, List.length_set] <;> omega)) (by first | omega | (simp only [List.length_append, List.length_map, List.length_cons, List.length_nil, List.length_take, List.length_drop, List.length_set] <;> omega)) _ (St.begin (Γ := [_, _]) hS56)) rfl (after_M (Γ1 := [_, _]) hS56 (fun v54 G54 w54 hv54 hS54 => ?_))
              clear hS56
              obtain ⟨k54, ad54, cp54, rs54, da54, dc54, g54, rfl, rfl, hle54, hrs54, hab54⟩ := hv54
              have hS57 : St _ _ [wk k54 k4 ad54 cp54 rs54, dk k4 da54 dc54 ((apL l ([0] ++ t)).take (scan (apL l ([0] ++ t)) 0).2) 0 ((scan (apL l ([0] ++ t)) 0).2), .fz g54, .ow 5 1 ad48 (1 + t.length) cp48 (bv ([0] ++ t)), .ow 3 1 ad40 rs.length cp40 (iv (nums rs)), wk k7 k4 ad cap rs] _ := hS54; clear hS54
              have hR54_5 := RsOk.mono hI.1 hle54
              refine hK _ _ ?_; clear hK K
              refine l_q rfl rfl (q_move rfl) ?_
              refine l_q rfl rfl (q_extract rfl rfl) ?_
              refine l_q rfl rfl (q_extract rfl rfl) ?_
              refine l_q rfl rfl (q_assignP rfl) ?_
              obtain ⟨hc1, hc2⟩ := tail_cut (t := t) hIw (by simp only [List.length_cons]; omega)
              have hc2' : (apL l (0 :: t)).take (scan (apL l (0 :: t)) 0).2 = l := by rw [hc1]; exact hc2
              have hc3 : (scan (apL l (0 :: t)) 0).2 = l.length := by rw [hc1]
              have hc4 : rs54.map Rc.abs = rs.map Rc.abs := by rw [hab54]; show (scan (apL l (0 :: t)) 0).1 = _; rw [hc1]
              have hc5 := abs_len hc4
              have hc6 : Whole l 0 (rs54.map Rc.abs) := by rw [hc4]; exact hIw
              have hc7 := tail_cnt hc6
              have hS58 : St _ _ [wk k54 k4 ad54 cp54 rs54, dk k4 da54 dc54 l 0 l.length, .fz g54, .ow 5 1 ad48 (1 + t.length) cp48 (bv ([0] ++ t)), .ow 3 1 ad40 rs.length cp40 (iv (nums rs)), wk k7 k4 ad cap rs] _ := hS57.cast (by rw [show (apL l ([0] ++ t)).take (scan (apL l ([0] ++ t)) 0).2 = l from hc2', show (scan (apL l ([0] ++ t)) 0).2 = l.length from hc3]); clear hS57
              refine l_q rfl rfl (q_assignI rfl) ?_
              refine l_nil ?_
              refine hK53 _ _ ?_
              refine wp_seq_k (fun K59 hK59 => ?_)
              refine wp_seq_k (fun K60 hK60 => ?_)
              refine wp_region_lit ?_
              refine l_q rfl rfl (q_moveI rfl) ?_
              refine l_q rfl rfl (q_neq rfl rfl) ?_
              refine l_q rfl rfl (q_moveB rfl) ?_
              refine l_on rfl rfl (by decide) ?_
              refine l_q rfl rfl (q_moveP rfl) ?_
              refine l_on rfl rfl (by decide) ?_
              refine l_q rfl rfl (q_peq rfl (by kernel_rfl)) ?_
              refine l_q rfl rfl (q_pickF rfl (by decide) rfl) ?_
              refine l_q rfl rfl (q_moveB rfl) ?_
              refine l_on rfl rfl rfl ?_
              refine l_q rfl rfl (q_moveP rfl) ?_
              refine l_on rfl rfl rfl ?_
              refine l_e rfl (fun K hK => ?_)
              have hS62 := hS58.fr1; clear hS58
              refine e_call (by kernel_rfl) (dEnd_ok _ _ _ _ _ _ hI.2.1 (by first | omega | (simp; omega)) (by first | omega | (simp; omega)) _ (St.begin (Γ := [_]) hS62)) rfl (after_M (Γ1 := [_]) hS62 (fun v61 G61 w61 hv61 hS61 => ?_))
              clear hS62
              obtain ⟨rfl, rfl⟩ := hv61
              have hS63 : St _ _ [dk k4 da54 dc54 l 0 l.length, wk k54 k4 ad54 cp54 rs54, .fz g54, .ow 5 1 ad48 (1 + t.length) cp48 (bv ([0] ++ t)), .ow 3 1 ad40 rs.length cp40 (iv (nums rs)), wk k7 k4 ad cap rs] _ := hS61; clear hS61
              refine hK _ _ ?_; clear hK K
              refine l_on rfl rfl rfl ?_
              refine l_q rfl rfl (q_moveI rfl) ?_
              refine l_on rfl rfl rfl ?_
              refine l_q rfl rfl (q_neq rfl rfl) ?_
              refine l_q rfl rfl (q_pickF rfl rfl rfl) ?_
              refine l_q rfl rfl (q_moveB rfl) ?_
              refine l_on rfl rfl (decide_eq_false (by simp)) ?_
              refine l_q rfl rfl (q_moveP rfl) ?_
              refine l_on rfl rfl (decide_eq_false (by simp)) ?_
              refine l_e rfl (fun K hK => ?_)
              refine e_call (by kernel_rfl) (dSafe_ok _ _ _ _ _ _ hI.2.1 (by first | omega | (simp; omega)) (by first | omega | (simp; omega)) _ (St.begin (Γ := [_]) hS63)) rfl (after_M (Γ1 := [_]) hS63 (fun v65 G65 w65 hv65 hS65 => ?_))
              clear hS63
              obtain ⟨rfl, rfl⟩ := hv65
              have hS66 : St _ _ [dk k4 da54 dc54 l 0 l.length, wk k54 k4 ad54 cp54 rs54, .fz g54, .ow 5 1 ad48 (1 + t.length) cp48 (bv ([0] ++ t)), .ow 3 1 ad40 rs.length cp40 (iv (nums rs)), wk k7 k4 ad cap rs] _ := hS65; clear hS65
              refine hK _ _ ?_; clear hK K
              refine l_on rfl rfl (decide_eq_false (by simp)) ?_
              refine l_q rfl rfl (q_moveI rfl) ?_
              refine l_on rfl rfl (decide_eq_false (by simp)) ?_
              refine l_q rfl rfl (q_neq rfl rfl) ?_
              refine l_q rfl rfl (q_pickF rfl (decide_eq_false (by simp)) rfl) ?_
              refine l_q rfl rfl (q_moveB rfl) ?_
              refine l_on rfl rfl (decide_eq_false (by simp)) ?_
              refine l_q rfl rfl (q_moveP rfl) ?_
              refine l_on rfl rfl (decide_eq_false (by simp)) ?_
              refine l_e rfl (fun K hK => ?_)
              have hS69 := hS66.fr1; clear hS66
              refine e_call (by kernel_rfl) (wSafe_ok _ _ _ _ _ _ _ _ _ _ (by first | omega | (simp only [List.length_append, List.length_map, List.length_cons, List.length_nil, List.length_take, List.length_drop, List.length_set] <;> omega)) hI.2.1 (by first | omega | (simp only [List.length_append, List.length_map, List.length_cons, List.length_nil, List.length_take, List.length_drop, List.length_set] <;> omega)) (by first | omega | (simp only [List.length_append, List.length_map, List.length_cons, List.length_nil, List.length_take, List.length_drop, List.length_set] <;> omega)) _ hrs54 _ (St.begin (Γ := [_, _]) hS69)) rfl (after_M (Γ1 := [_, _]) hS69 (fun v68 G68 w68 hv68 hS68 => ?_))
              clear hS69
              obtain ⟨rfl, rfl⟩ := hv68
              have hS70 : St _ _ [wk k54 k4 ad54 cp54 rs54, dk k4 da54 dc54 l 0 l.length, .fz g54, .ow 5 1 ad48 (1 + t.length) cp48 (bv ([0] ++ t)), .ow 3 1 ad40 rs.length cp40 (iv (nums rs)), wk k7 k4 ad cap rs] _ := hS68; clear hS68
              refine hK _ _ ?_; clear hK K
              refine l_on rfl rfl (decide_eq_false (by simp)) ?_
              refine l_q rfl rfl (q_moveS rfl) ?_
              refine l_on rfl rfl (decide_eq_false (by simp)) ?_
              refine l_q rfl rfl (q_lenSl (e := 3) rfl (by kernel_rfl)) ?_
              refine l_on rfl rfl (decide_eq_false (by simp)) ?_
              refine l_q rfl rfl (q_neq rfl rfl) ?_
              refine l_q rfl rfl (q_pickF rfl (decide_eq_false (by simp)) rfl) ?_
              refine l_q rfl rfl (q_moveB rfl) ?_
              refine l_on rfl rfl (decide_eq_false (by rw [hc7, hc5]; simp)) ?_
              refine l_q rfl rfl (q_moveP rfl) ?_
              refine l_on rfl rfl (decide_eq_false (by rw [hc7, hc5]; simp)) ?_
              refine l_e rfl (fun K hK => ?_)
              refine e_call (by kernel_rfl) (wNumbers_ok _ _ _ _ _ (by first | omega | (simp only [List.length_append, List.length_map, List.length_cons, List.length_nil, List.length_take, List.length_drop, List.length_set] <;> omega)) _ (St.begin (Γ := [_]) hS70)) rfl (after_M (Γ1 := [_]) hS70 (fun v72 G72 w72 hv72 hS72 => ?_))
              clear hS70
              obtain ⟨ad72, cp72, rfl, rfl⟩ := hv72
              have hS73 : St _ _ [.ow 3 1 ad72 rs54.length cp72 (iv (nums rs54)), wk k54 k4 ad54 cp54 rs54, dk k4 da54 dc54 l 0 l.length, .fz g54, .ow 5 1 ad48 (1 + t.length) cp48 (bv ([0] ++ t)), .ow 3 1 ad40 rs.length cp40 (iv (nums rs)), wk k7 k4 ad cap rs] _ := hS72; clear hS72
              refine hK _ _ ?_; clear hK K
              refine l_on rfl rfl (decide_eq_false (by rw [hc7, hc5]; simp)) ?_
              refine l_q rfl rfl (q_lenSl (e := 3) rfl (by kernel_rfl)) ?_
              refine l_on rfl rfl (decide_eq_false (by rw [hc7, hc5]; simp)) ?_
              refine l_q rfl rfl (q_moveS rfl) ?_
              refine l_on rfl rfl (decide_eq_false (by rw [hc7, hc5]; simp)) ?_
              refine l_q rfl rfl (q_lenSl (e := 3) rfl (by kernel_rfl)) ?_
              refine l_on rfl rfl (decide_eq_false (by rw [hc7, hc5]; simp)) ?_
              refine l_q rfl rfl (q_neq rfl rfl) ?_
              refine l_q rfl rfl (q_pickF rfl (decide_eq_false (by rw [hc7, hc5]; simp)) rfl) ?_
              refine l_nil ?_
              refine hK60 _ _ ?_
              refine c_condF rfl (decide_eq_false (by rw [hc5]; simp)) ?_
              refine wp_skip ?_
              refine hK59 _ _ ?_
              refine wp_seq_k (fun K75 hK75 => ?_)
              refine wp_region_lit ?_
              refine l_q rfl rfl (q_moveP rfl) ?_
              refine l_q rfl rfl (q_moveS rfl) ?_
              refine l_e rfl (fun K hK => ?_)
              have hS77 := hS73.fr3; clear hS73
              have hS78 := hS77.fr3; clear hS77
              have hS79 := hS78.fr3; clear hS78
              refine e_call (by kernel_rfl) (wAppend_ok _ _ _ _ _ _ _ _ _ _ _ (by first | omega | (simp only [List.length_append, List.length_map, List.length_cons, List.length_nil, List.length_take, List.length_drop, List.length_set] <;> omega)) hI.2.1 (by first | omega | (simp only [List.length_append, List.length_map, List.length_cons, List.length_nil, List.length_take, List.length_drop, List.length_set] <;> omega)) (by first | omega | (simp only [List.length_append, List.length_map, List.length_cons, List.length_nil, List.length_take, List.length_drop, List.length_set] <;> omega)) hrs54 _ m hm _ _ (by first | omega | (simp only [List.length_append, List.length_map, List.length_cons, List.length_nil, List.length_take, List.length_drop, List.length_set] <;> omega)) hGm _ (St.rogB (Γ1 := [_, _, _]) hS79) (St.begin (Γ := [_, _, _]) hS79)) rfl (after_M (Γ1 := [_, _, _]) hS79 (fun v76 G76 w76 hv76 hS76 => ?_))
              clear hS79
              obtain ⟨ad76, cp76, rs76, da76, dc76, g76, rfl, rfl, hle76, hrs76, hab76⟩ := hv76
              have hS80 : St _ _ [wk k54 k4 ad76 cp76 rs76, dk k4 da76 dc76 (waL l m) 0 l.length, .fz g76, .ow 3 1 ad72 rs54.length cp72 (iv (nums rs54)), .ow 5 1 ad48 (1 + t.length) cp48 (bv ([0] ++ t)), .ow 3 1 ad40 rs.length cp40 (iv (nums rs)), wk k7 k4 ad cap rs] _ := hS76; clear hS76
              have hL76 := waL_len l m
              have hR76_6 := RsOk.mono hR54_5 hle76
              refine hK _ _ ?_; clear hK K
              refine l_q rfl rfl (q_move rfl) ?_
              refine l_q rfl rfl (q_extract rfl rfl) ?_
              obtain ⟨hn1, hn2, hn3, hn4⟩ := tail_new (m := m) hc6 (by omega) (by omega) (by omega) hab76
              have hw9 : Whole (waL l m) 0 (rs76.map Rc.abs) := by rw [hab76]; exact whole_wa hc6
              have hl9 := whole_len hw9
              refine l_q rfl rfl (q_extract rfl rfl) ?_
              refine l_q rfl rfl (q_assignI rfl) ?_
              refine l_q rfl rfl (q_assignI rfl) ?_
              refine l_nil ?_
              refine hK75 _ _ ?_
              refine wp_seq_k (fun K81 hK81 => ?_)
              refine wp_region_lit ?_
              refine l_q rfl rfl (q_moveP rfl) ?_
              refine l_q rfl rfl (q_moveI rfl) ?_
              refine l_e rfl (fun K hK => ?_)
              have hS83 := hS80.fr2; clear hS80
              have hS84 := hS83.fr1; clear hS83
              refine e_call (by kernel_rfl) (wRead_ok _ _ _ _ _ _ (by first | omega | (simp only [List.length_append, List.length_map, List.length_cons, List.length_nil, List.length_take, List.length_drop, List.length_set] <;> omega)) hrs76 _ _ (St.begin (Γ := [_, _]) hS84)) rfl (after_M (Γ1 := [_, _]) hS84 (fun v82 G82 w82 hv82 hS82 => ?_))
              clear hS84
              obtain ⟨ad82, cp82, rfl, rfl⟩ := hv82
              have hS85 : St _ _ [.ow 5 1 ad82 ((rdB (List.map Rc.abs rs76) (((waN l m 0) : Nat) : Int)).length) cp82 (bv (rdB (List.map Rc.abs rs76) (((waN l m 0) : Nat) : Int))), wk k54 k4 ad76 cp76 rs76, .fz g76, dk k4 da76 dc76 (waL l m) 0 l.length, .ow 3 1 ad72 rs54.length cp72 (iv (nums rs54)), .ow 5 1 ad48 (1 + t.length) cp48 (bv ([0] ++ t)), .ow 3 1 ad40 rs.length cp40 (iv (nums rs)), wk k7 k4 ad cap rs] _ := hS82; clear hS82
              refine hK _ _ ?_; clear hK K
              refine l_q rfl rfl (q_move rfl) ?_
              refine l_q rfl rfl (q_extract rfl rfl) ?_
              refine l_q rfl rfl (q_extract rfl rfl) ?_
              refine l_q rfl rfl (q_assignS rfl) ?_
              refine l_q rfl rfl (q_assignI rfl) ?_
              refine l_nil ?_
              refine hK81 _ _ ?_
              refine wp_seq_k (fun K86 hK86 => ?_)
              refine wp_region_lit ?_
              refine l_q rfl rfl (q_moveI rfl) ?_
              refine l_q rfl rfl (q_eql rfl rfl) ?_
              refine l_q rfl rfl (q_moveB rfl) ?_
              refine l_on rfl rfl (decide_eq_true (by rw [hn2]; rfl)) ?_
              refine l_q rfl rfl (q_moveI rfl) ?_
              refine l_on rfl rfl (decide_eq_true (by rw [hn2]; rfl)) ?_
              refine l_q rfl rfl (q_eql rfl rfl) ?_
              refine l_q rfl rfl (q_pickT rfl (decide_eq_true (by rw [hn2]; rfl)) rfl) ?_
              refine l_q rfl rfl (q_moveB rfl) ?_
              refine l_on rfl rfl (decide_eq_true (by rw [hn3]; rfl)) ?_
              refine l_q rfl rfl (q_moveI rfl) ?_
              refine l_on rfl rfl (decide_eq_true (by rw [hn3]; rfl)) ?_
              refine l_q rfl rfl (q_moveI rfl) ?_
              refine l_on rfl rfl (decide_eq_true (by rw [hn3]; rfl)) ?_
              refine l_q rfl rfl (q_eql rfl rfl) ?_
              refine l_q rfl rfl (q_pickT rfl (decide_eq_true (by rw [hn3]; rfl)) rfl) ?_
              refine l_q rfl rfl (q_moveB rfl) ?_
              refine l_on rfl rfl (decide_eq_true (by rw [hn1])) ?_
              refine l_q rfl rfl (q_moveS rfl) ?_
              refine l_on rfl rfl (decide_eq_true (by rw [hn1])) ?_
              refine l_q rfl rfl (q_convBS (l := (rdB (List.map Rc.abs rs76) (((waN l m 0) : Nat) : Int))) rfl (hS85.owG (i := 0) rfl) (by first | omega | (simp only [List.length_append, List.length_map, List.length_cons, List.length_nil, List.length_take, List.length_drop, List.length_set] <;> omega)) (by kernel_rfl) (by kernel_rfl)) ?_
              refine l_on rfl rfl (decide_eq_true (by rw [hn1])) ?_
              refine l_q rfl rfl (q_moveS rfl) ?_
              refine l_on rfl rfl (decide_eq_true (by rw [hn1])) ?_
              refine l_q rfl rfl (q_convBS (l := m) rfl (hGm.mono hS85.base) (by first | omega | (simp only [List.length_append, List.length_map, List.length_cons, List.length_nil, List.length_take, List.length_drop, List.length_set] <;> omega)) (by kernel_rfl) (by kernel_rfl)) ?_
              refine l_on rfl rfl (decide_eq_true (by rw [hn1])) ?_
              refine l_q rfl rfl (q_str_eql (l := (rdB (List.map Rc.abs rs76) (((waN l m 0) : Nat) : Int))) (m := m) rfl rfl (rdB_bytes hrs76 _) hm) ?_
              refine l_q rfl rfl (q_pickT rfl (decide_eq_true (by rw [hn1])) rfl) ?_
              refine l_q rfl rfl (q_assignB rfl) ?_
              refine l_nil ?_
              refine hK86 _ _ ?_
              refine wp_ret ?_
              refine c_ret1 rfl rfl ?_
              exact ⟨_, rfl, congrArg Value.bool (by rw [hn4]; simp), hS85.drop⟩

end Go.Proofs.Ytmbbkliekgiolaa
