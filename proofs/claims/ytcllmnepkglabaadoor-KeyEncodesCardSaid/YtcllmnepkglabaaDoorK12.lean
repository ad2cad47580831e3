/- Package key: Decode. -/
import Derived.Test.YtcllmnepkglabaaDoorK11
set_option linter.unusedVariables false
set_option linter.unusedSimpArgs false
namespace Go.Proofs.YtcllmnepkglabaaDoor
open Go.RowKit
/-- The key that bytes are, or the error. -/
noncomputable def decR (b : List Nat) : List Vl × Int := @dite _ (∃ K, RsOk K ∧ K.length ≤ 16 ∧ b = enc K) (Classical.propDecidable _) (fun h => (h.choose, 0)) (fun _ => ([], 41))
theorem decR_yes {K : List Vl} {b : List Nat} (hK : RsOk K) (h16 : K.length ≤ 16) (hb : b = enc K) : decR b = (K, 0) := by
  have h : ∃ K, RsOk K ∧ K.length ≤ 16 ∧ b = enc K := ⟨K, hK, h16, hb⟩
  unfold decR
  rw [dif_pos h]
  have h2 := h.choose_spec
  rw [enc_inj hK h2.1 (by rw [← h2.2.2, hb])]
theorem decR_no {b : List Nat} (h : ∀ K, RsOk K → K.length ≤ 16 → b ≠ enc K) : decR b = ([], 41) := by
  unfold decR
  rw [dif_neg]
  rintro ⟨K, h1, h2, h3⟩
  exact h K h1 h2 h3
theorem decR_or (b : List Nat) : (∃ K, RsOk K ∧ K.length ≤ 16 ∧ b = enc K ∧ decR b = (K, 0)) ∨ ((∀ K, RsOk K → K.length ≤ 16 → b ≠ enc K) ∧ decR b = ([], 41)) := by
  rcases Classical.em (∃ K, RsOk K ∧ K.length ≤ 16 ∧ b = enc K) with ⟨K, h1, h2, h3⟩ | h
  · exact .inl ⟨K, h1, h2, h3, decR_yes h1 h2 h3⟩
  · have h' : ∀ K, RsOk K → K.length ≤ 16 → b ≠ enc K := fun K h1 h2 h3 => h ⟨K, h1, h2, h3⟩
    exact .inr ⟨h', decR_no h'⟩
theorem decR_vs (b : List Nat) : VsOk (decR b).1 := by
  rcases decR_or b with ⟨K, h1, _, _, h4⟩ | ⟨_, h4⟩
  · rw [h4]; exact h1.1
  · rw [h4]; exact VsOk.nil
theorem decR_len (b : List Nat) : (decR b).1.length ≤ 16 := by
  rcases decR_or b with ⟨K, _, h2, _, h4⟩ | ⟨_, h4⟩
  · rw [h4]; exact h2
  · rw [h4]; exact Nat.zero_le _
theorem decR_zero {b : List Nat} (h : (decR b).2 = 0) : ∃ K, RsOk K ∧ K.length ≤ 16 ∧ b = enc K ∧ (decR b).1 = K := by
  rcases decR_or b with ⟨K, h1, h2, h3, h4⟩ | ⟨_, h4⟩
  · exact ⟨K, h1, h2, h3, by rw [h4]⟩
  · rw [h4] at h; cases h
theorem dec_fail1 {b rest : List Nat} {l : List Vl} (he : b = enc l ++ rest) (hR : RsOk l) (hp : 0 < rest.length) (h : NoTake rest) : decR b = ([], 41) := by
  refine decR_no fun K hK _ hb => ?_
  obtain ⟨m, rfl, h2⟩ := enc_pre hR hK (hb ▸ he)
  match m with
  | [] => rw [h2] at hp; simp [enc_nil] at hp
  | v :: m => exact h v (enc m) (hK.1 v (List.mem_append_right _ (.head _))) (hK.2 v (List.mem_append_right _ (.head _))) h2
theorem dec_fail2 {b rest : List Nat} {l : List Vl} (he : b = enc l ++ rest) (hR : RsOk l) (hp : 0 < rest.length) (h : l.length = 16) : decR b = ([], 41) := by
  refine decR_no fun K hK h16 hb => ?_
  obtain ⟨m, rfl, h2⟩ := enc_pre hR hK (hb ▸ he)
  match m with
  | [] => rw [h2] at hp; simp [enc_nil] at hp
  | v :: m => simp at h16; omega
theorem dec_next {b rest r : List Nat} {l : List Vl} {a : Vl} (he : b = enc l ++ rest) (h : rest = encV a ++ r) : b = enc (l ++ [a]) ++ r := by
  rw [enc_app, he, h]
  show _ = (enc l ++ (encV a ++ enc [])) ++ r
  rw [enc_nil]; simp
theorem dec_yes {b rest : List Nat} {l : List Vl} (he : b = enc l ++ rest) (hR : RsOk l) (h16 : l.length ≤ 16) (hp : rest.length = 0) : decR b = (l, 0) := by
  have : rest = [] := List.eq_nil_of_length_eq_zero hp
  subst this
  exact decR_yes hR h16 (by rw [he, List.append_nil])
theorem RsOk.nil : RsOk [] := ⟨VsOk.nil, fun v h => by cases h⟩
attribute [local irreducible] Oper.wp Sem.run Code.wp wpList wpAnyO callFunc execOp Calls
attribute [local irreducible] enc encR rightB toU encV nxB nxN fewB rightL vls vlt
attribute [local irreducible] cmpZ cmB orL vcmp rcmp esc f8 decR

set_option maxRecDepth 100000 in
theorem dec_ok (b : List Nat) (hb : Bytes b) (n : Nat) (hn : b.length = n) (ab : Option Addr) (cb : Nat) (hcb : n ≤ cb) (hm : n ≤ 1000000) (w : World) (g : Gh) (hg : Gle g (hw w)) (hG : SlG g ab (bv b)) : Calls Tryd.prog 18 #[.slice ab n cb] w (PostN w fun v G => ∃ oa oc, v = .tuple #[.slice oa (decR b).1.length oc, .int .i64 (decR b).2] ∧ G = [.ow 31 3 oa (decR b).1.length oc (List.flatMap vl (decR b).1)]) := by
  have hS := St.start w
  subst hn
  refine c_enter Tryd.func18 rfl rfl rfl ?_
  refine wp_seq_k (fun K1 hK1 => ?_)
  refine wp_region_lit ?_
  refine l_q rfl rfl (q_assignS rfl) ?_
  refine l_q rfl rfl (q_assignI rfl) ?_
  refine l_nil ?_
  refine hK1 _ _ ?_
  refine wp_seq_k (fun K2 hK2 => ?_)
  refine wp_region_lit ?_
  refine l_q rfl rfl (q_assignS rfl) ?_
  refine l_nil ?_
  refine hK2 _ _ ?_
  refine wp_seq_k (fun K3 hK3 => ?_)
  refine wp_block ?_
  have hS4 := hS.ow_nil 31 3; clear hS
  refine c_loop (τ := (List Vl) × (List Nat) × (Option Addr) × Nat × (Option Addr) × Nat) [(0, 0), (2, 28)] (fun x => (fun (l : List Vl) (rest : List Nat) (ra : Option Addr) (rc : Nat) (oa : Option Addr) (oc : Nat) => [(0, .slice ra rest.length rc), (4, .slice oa l.length oc)]) x.1 x.2.1 x.2.2.1 x.2.2.2.1 x.2.2.2.2.1 x.2.2.2.2.2) (fun x w' => (fun (l : List Vl) (rest : List Nat) (ra : Option Addr) (rc : Nat) (oa : Option Addr) (oc : Nat) => St w (fun _ => False) [.ow 31 3 oa l.length oc (List.flatMap vl l)] w' ∧ b = enc l ++ rest ∧ RsOk l ∧ l.length ≤ 16 ∧ Bytes rest ∧ SlG g ra (bv rest) ∧ rest.length ≤ rc ∧ rest.length ≤ b.length) x.1 x.2.1 x.2.2.1 x.2.2.2.1 x.2.2.2.2.1 x.2.2.2.2.2) (fun x => (fun (l : List Vl) (rest : List Nat) (ra : Option Addr) (rc : Nat) (oa : Option Addr) (oc : Nat) => rest.length) x.1 x.2.1 x.2.2.1 x.2.2.2.1 x.2.2.2.2.1 x.2.2.2.2.2) (⟨[], b, ab, cb, none, 0⟩) ?_ (by refine ⟨rfl, ⟨rfl, trivial⟩⟩) (fun x5 j5 w5 hJ5 K5 hK5 => ?_)
  ·
    exact ⟨hS4, by rw [enc_nil]; rfl, RsOk.nil, Nat.zero_le _, hb, hG, hcb, Nat.le_refl _⟩
  ·
    obtain ⟨l, rest, ra, rc, oa, oc⟩ := x5
    obtain ⟨hS5, he, hR, h16, hbr, hGr, hrc, hlen⟩ := hJ5
    try dsimp only at hS5 he hR h16 hbr hGr hrc hlen ⊢
    refine wp_seq_k (fun K6 hK6 => ?_)
    refine wp_seq_k (fun K7 hK7 => ?_)
    refine wp_region_lit ?_
    refine l_q rfl rfl (q_moveS rfl) ?_
    refine l_q rfl rfl (q_lenSl (e := 5) rfl (by kernel_rfl)) ?_
    refine l_q rfl rfl (q_gtr rfl rfl) ?_
    refine l_nil ?_
    refine hK7 _ _ ?_
    refine c_cond rfl (fun hc8 => ?_) (fun hc8 => ?_)
    ·
      have hc8b := hc8
      try simp only [decide_eq_true_eq, decide_eq_false_iff_not, Bool.not_eq_true', Bool.not_eq_false', Bool.and_eq_true, Bool.or_eq_true, Int.not_lt, Int.not_le, ne_eq, Decidable.not_not] at hc8
      refine wp_skip ?_
      refine hK6 _ _ ?_
      refine wp_block ?_
      refine wp_seq_k (fun K9 hK9 => ?_)
      refine wp_region_lit ?_
      refine l_q rfl rfl (q_moveS rfl) ?_
      refine l_e rfl (fun K hK => ?_)
      refine e_call (by kernel_rfl) (take_ok rest hbr rest.length (by first | omega | (simp only [List.length_append, List.length_map, List.length_cons, List.length_nil, List.length_take, List.length_drop, List.length_set] <;> omega)) _ _ (by first | omega | (simp only [List.length_append, List.length_map, List.length_cons, List.length_nil, List.length_take, List.length_drop, List.length_set] <;> omega)) (by first | omega | (simp only [List.length_append, List.length_map, List.length_cons, List.length_nil, List.length_take, List.length_drop, List.length_set] <;> omega)) (by omega) _ _ (hg.trans hS5.base) hGr) rfl (after_R hS5 (fun v10 w10 hv10 hS10 => ?_))
      clear hS5
      obtain ⟨ok10, a10, r10, oa10, oc10, rfl, ha10, hbr10, hrc10, hGr10, hT10, hF10⟩ := hv10
      refine hK _ _ ?_; clear hK K
      refine l_q rfl rfl (q_move rfl) ?_
      refine l_q rfl rfl (q_extract rfl rfl) ?_
      refine l_q rfl rfl (q_extract rfl rfl) ?_
      refine l_q rfl rfl (q_extract rfl rfl) ?_
      refine l_e rfl (fun K hK => ?_)
      refine e_alloc (zv := .agg #[.int .i64 0, .int .i64 0, .string ⟨#[]⟩]) hS10 (by kernel_rfl) (fun b11 w11 (hS11 : St _ _ [.blk b11 (.cells #[.int .i64 (0 : Int), .int .i64 (0 : Int), .string (bs [])] 31), .ow 31 3 oa l.length oc (List.flatMap vl l)] _) => ?_)
      clear hS10
      refine hK _ _ ?_; clear hK K
      refine l_e rfl (fun K hK => ?_)
      refine e_storeA hS11 rfl rfl (by kernel_rfl) (by repeat' (first | exact trivial | refine ⟨by first | rfl | assumption | exact one_if (by assumption), ?_⟩)) (i := 0) rfl rfl (fun w12 (hS12 : St _ _ [.blk b11 (.cells #[.int .i64 a10.1, .int .i64 a10.2.1, .string (bs a10.2.2)] 31), .ow 31 3 oa l.length oc (List.flatMap vl l)] _) => ?_)
      clear hS11
      refine hK _ _ ?_; clear hK K
      refine l_q rfl rfl (q_assignS rfl) ?_
      refine l_q rfl rfl (q_assignB rfl) ?_
      refine l_nil ?_
      refine hK9 _ _ ?_
      refine wp_seq_k (fun K13 hK13 => ?_)
      refine wp_seq_k (fun K14 hK14 => ?_)
      refine wp_region_lit ?_
      refine l_q rfl rfl (q_moveB rfl) ?_
      refine l_q rfl rfl (q_not rfl) ?_
      refine l_q rfl rfl (q_moveB rfl) ?_
      refine g_splitL (t := 19) rfl (fun hg15 => ?_) (fun hg15 => ?_)
      ·
        have hg15b := hg15
        try simp only [decide_eq_true_eq, decide_eq_false_iff_not, Bool.not_eq_true', Bool.not_eq_false', Bool.and_eq_true, Bool.or_eq_true, Int.not_lt, Int.not_le, ne_eq, Decidable.not_not] at hg15
        refine l_off rfl rfl rfl hg15b ?_
        refine l_off rfl rfl rfl hg15b ?_
        refine l_off rfl rfl rfl hg15b ?_
        refine l_q rfl rfl (q_pickT rfl hg15b rfl) ?_
        refine l_nil ?_
        refine hK14 _ _ ?_
        refine c_condT rfl rfl ?_
        refine wp_seq_k (fun K17 hK17 => ?_)
        refine wp_region_lit ?_
        refine l_q rfl rfl (q_assignS rfl) ?_
        refine l_q rfl rfl (q_assignI rfl) ?_
        refine l_nil ?_
        refine hK17 _ _ ?_
        refine wp_ret ?_
        refine c_ret2 rfl rfl rfl ?_
        have hd : decR b = ([], 41) := by first | exact dec_fail1 he hR (by omega) (hF10 (by assumption)) | exact dec_fail2 he hR (by omega) (by omega)
        exact ⟨_, _, rfl, ⟨none, 0, by rw [hd]; rfl, by rw [hd]; rfl⟩, hS12.drop.ow_nil _ _⟩
      ·
        have hg15b := hg15
        try simp only [decide_eq_true_eq, decide_eq_false_iff_not, Bool.not_eq_true', Bool.not_eq_false', Bool.and_eq_true, Bool.or_eq_true, Int.not_lt, Int.not_le, ne_eq, Decidable.not_not] at hg15
        refine l_on rfl rfl hg15b ?_
        refine l_q rfl rfl (q_moveS rfl) ?_
        refine l_on rfl rfl hg15b ?_
        refine l_q rfl rfl (q_lenSl (e := 31) rfl (by kernel_rfl)) ?_
        refine l_on rfl rfl hg15b ?_
        refine l_q rfl rfl (q_eql rfl rfl) ?_
        refine l_q rfl rfl (q_pickF rfl hg15b rfl) ?_
        refine l_nil ?_
        refine hK14 _ _ ?_
        refine c_cond rfl (fun hc18 => ?_) (fun hc18 => ?_)
        ·
          have hc18b := hc18
          try simp only [decide_eq_true_eq, decide_eq_false_iff_not, Bool.not_eq_true', Bool.not_eq_false', Bool.and_eq_true, Bool.or_eq_true, Int.not_lt, Int.not_le, ne_eq, Decidable.not_not] at hc18
          refine wp_seq_k (fun K19 hK19 => ?_)
          refine wp_region_lit ?_
          refine l_q rfl rfl (q_assignS rfl) ?_
          refine l_q rfl rfl (q_assignI rfl) ?_
          refine l_nil ?_
          refine hK19 _ _ ?_
          refine wp_ret ?_
          refine c_ret2 rfl rfl rfl ?_
          have hd : decR b = ([], 41) := by first | exact dec_fail1 he hR (by omega) (hF10 (by assumption)) | exact dec_fail2 he hR (by omega) (by omega)
          exact ⟨_, _, rfl, ⟨none, 0, by rw [hd]; rfl, by rw [hd]; rfl⟩, hS12.drop.ow_nil _ _⟩
        ·
          have hc18b := hc18
          try simp only [decide_eq_true_eq, decide_eq_false_iff_not, Bool.not_eq_true', Bool.not_eq_false', Bool.and_eq_true, Bool.or_eq_true, Int.not_lt, Int.not_le, ne_eq, Decidable.not_not] at hc18
          refine wp_skip ?_
          refine hK13 _ _ ?_
          refine wp_region_lit ?_
          refine l_q rfl rfl (q_moveS rfl) ?_
          refine l_q rfl rfl (q_loadA (m := 3) rfl (by kernel_rfl) (by kernel_rfl) (hS12.blk (i := 0) rfl) rfl rfl) ?_
          refine l_e rfl (fun K hK => ?_)
          refine e_buildSliceA (e := 31) (m := 3) (zv := .agg #[.int .i64 0, .int .i64 0, .string ⟨#[]⟩]) hS12 (by kernel_rfl) (by kernel_rfl) (by kernel_rfl) rfl rfl rfl rfl (fun b20 w20 (hS20 : St _ _ [.blk b20 (.cells #[.int .i64 a10.1, .int .i64 a10.2.1, .string (bs a10.2.2)] 31), .blk b11 (.cells #[.int .i64 a10.1, .int .i64 a10.2.1, .string (bs a10.2.2)] 31), .ow 31 3 oa l.length oc (List.flatMap vl l)] _) => ?_)
          clear hS12
          have hS20o : St _ _ [.ow 31 3 (some ⟨b20, 0, none⟩) 1 1 (List.flatMap vl [a10]), .blk b11 (.cells #[.int .i64 a10.1, .int .i64 a10.2.1, .string (bs a10.2.2)] 31), .ow 31 3 oa l.length oc (List.flatMap vl l)] _ := hS20.blkOw' (i := 0) (m := 1) (size := 3) (xs := List.flatMap vl [a10]) rfl rfl rfl (by decide); clear hS20
          refine hK _ _ ?_; clear hK K
          refine l_e rfl (fun K hK => ?_)
          refine e_app (e := 31) (size := 3) (bytes := 32) (i := 2) (m' := (l ++ [a10]).length) (by kernel_rfl) hS20o rfl rfl rfl (SlG.src (e := 31) (by kernel_rfl) (hS20o.owG (i := 0) rfl) ((rows_len (c := vl) (m := 3) (fun _ => rfl) _).trans (by first | rfl | (simp only [List.length_append, List.length_map, List.length_cons, List.length_nil, List.length_take, List.length_drop, List.length_set]; done) | (simp only [List.length_append, List.length_map, List.length_cons, List.length_nil, List.length_take, List.length_drop, List.length_set]; omega) | omega)) (by decide) (rows_one vl_ones)) (by first | omega | (simp only [List.length_append, List.length_map, List.length_cons, List.length_nil, List.length_take, List.length_drop, List.length_set] <;> omega) | (simp; done)) rows_app (by first | omega | (simp only [maxLen, List.length_append, List.length_map, List.length_cons, List.length_nil, List.length_take, List.length_drop, List.length_set] <;> omega) | (simp only [maxLen]; omega)) (by first | omega | (simp only [List.length_append, List.length_map, List.length_cons, List.length_nil, List.length_take, List.length_drop, List.length_set] <;> omega)) (fun ad21 cp21 w21 (hS21 : St _ _ [.ow 31 3 (some ⟨b20, 0, none⟩) 1 1 (List.flatMap vl [a10]), .blk b11 (.cells #[.int .i64 a10.1, .int .i64 a10.2.1, .string (bs a10.2.2)] 31), .ow 31 3 ad21 ((l ++ [a10]).length) cp21 (List.flatMap vl (l ++ [a10]))] _) => ?_)
          clear hS20o
          refine hK _ _ ?_; clear hK K
          refine l_q rfl rfl (q_moveS rfl) ?_
          refine l_q rfl rfl (q_assignS rfl) ?_
          refine l_q rfl rfl (q_assignS rfl) ?_
          refine l_nil ?_
          have hS22 := hS21.fr2; clear hS21
          have hS23 : St _ _ [.ow 31 3 ad21 ((l ++ [a10]).length) cp21 (List.flatMap vl (l ++ [a10]))] _ := hS22.only 1; clear hS22
          refine hK5 _ _ (came (⟨(l ++ [a10]), r10, oa10, oc10, ad21, cp21⟩) (by repeat' (first | exact Agree.refl _ _ | refine Agree.up ?_ rfl | refine Agree.hav2 ?_ rfl | refine Agree.ups2 ?_ rfl)) (by repeat' (first | exact trivial | refine ⟨by first | rfl | exact int_succ _ | assumption, ?_⟩)) ?_)
          have hT := hT10 (by assumption)
          have hel : 1 ≤ (encV a10).length := by unfold encV; simp
          have hlr := congrArg List.length hT.2
          rw [List.length_append] at hlr
          exact ⟨⟨hS23, dec_next he hT.2, hR.app (RsOk.one ha10 hT.1), (by show (l ++ [a10]).length ≤ 16; rw [List.length_append]; simp; omega), hbr10, hGr10, hrc10, (by show r10.length ≤ b.length; omega)⟩, by (show r10.length < rest.length); omega⟩
    ·
      have hc8b := hc8
      try simp only [decide_eq_true_eq, decide_eq_false_iff_not, Bool.not_eq_true', Bool.not_eq_false', Bool.and_eq_true, Bool.or_eq_true, Int.not_lt, Int.not_le, ne_eq, Decidable.not_not] at hc8
      refine wp_exit ?_
      refine hK3 _ _ ?_
      refine wp_seq_k (fun K24 hK24 => ?_)
      refine wp_region_lit ?_
      refine l_q rfl rfl (q_moveS rfl) ?_
      refine l_q rfl rfl (q_assignS rfl) ?_
      refine l_q rfl rfl (q_assignI rfl) ?_
      refine l_nil ?_
      refine hK24 _ _ ?_
      refine wp_ret ?_
      refine c_ret2 rfl rfl rfl ?_
      have hd := dec_yes he hR h16 (by omega)
      exact ⟨_, _, rfl, ⟨oa, oc, (congrArg (fun q : List Vl × Int => Value.tuple #[.slice oa q.1.length oc, .int .i64 q.2]) hd).symm, by rw [hd]⟩, hS5⟩

end Go.Proofs.YtcllmnepkglabaaDoor
