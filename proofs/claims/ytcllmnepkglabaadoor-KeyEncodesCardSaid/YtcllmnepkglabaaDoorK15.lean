/- The document's Decode. -/
import Derived.Test.YtcllmnepkglabaaDoorK14
import Derived.Test.YtcllmnepkglabaaDoorK13
set_option linter.unusedVariables false
set_option linter.unusedSimpArgs false
namespace Go.Proofs.YtcllmnepkglabaaDoor
open Go.RowKit
/-- A key of these bytes goes on from here. -/
def DI (b : List Nat) (l : List Vl) (a : Nat) : Prop := ∀ K, RsOk K → b = enc K → ∃ m, K = l ++ m ∧ b.drop a = enc m
theorem DI.zero (b : List Nat) : DI b [] 0 := fun K _ h => ⟨K, rfl, h⟩
theorem enc_ne0 {v : Vl} {m : List Vl} : enc (v :: m) ≠ [] := by rw [enc_cons]; simp [encV]
theorem drop_pos {b : List Nat} {a : Nat} (h : a < b.length) : b.drop a ≠ [] := by
  intro h2
  have := congrArg List.length h2
  rw [List.length_drop, List.length_nil] at this; omega
theorem DI.more {b : List Nat} {l : List Vl} {a : Nat} (h : DI b l a) (ha : a < b.length) {K : List Vl} (hK : RsOk K) (hb : b = enc K) : ∃ v m, K = l ++ v :: m ∧ b.drop a = encV v ++ enc m ∧ VOk v ∧ rightB v = true := by
  obtain ⟨m, rfl, h2⟩ := h K hK hb
  match m, h2 with
  | [], h2 => exact absurd h2 (drop_pos ha)
  | v :: m, h2 => exact ⟨v, m, rfl, h2, hK.1 v (List.mem_append_right _ (.head _)), hK.2 v (List.mem_append_right _ (.head _))⟩
theorem DI.fail {b : List Nat} {l : List Vl} {a n : Nat} {x : Vl} (h : DI b l a) (ha : a < b.length) (hT : RT (b.drop a) x n) (hf : n = 0 ∨ l.length = 16) : decR b = ([], 41) := by
  refine decR_no fun K hK h16 hb => ?_
  obtain ⟨v, m, rfl, h2, hv, hr⟩ := h.more ha hK hb
  obtain ⟨_, h3⟩ := hT v (enc m) hv hr h2
  rw [encV_length] at h3
  rw [List.length_append, List.length_cons] at h16
  omega
theorem DI.next {b : List Nat} {l : List Vl} {a n : Nat} {x : Vl} (h : DI b l a) (ha : a < b.length) (hT : RT (b.drop a) x n) : DI b (l ++ [x]) (a + n) := by
  intro K hK hb
  obtain ⟨v, m, rfl, h2, hv, hr⟩ := h.more ha hK hb
  obtain ⟨h3, h4⟩ := hT v (enc m) hv hr h2
  refine ⟨m, by rw [h3]; simp, ?_⟩
  rw [← List.drop_drop, h2, h4]
  exact List.drop_left' rfl
theorem DI.all {b : List Nat} {l : List Vl} {a : Nat} (h : DI b l a) (ha : b.length ≤ a) {K : List Vl} (hK : RsOk K) (hb : b = enc K) : K = l := by
  obtain ⟨m, rfl, h2⟩ := h K hK hb
  rw [List.drop_eq_nil_of_le ha] at h2
  match m, h2 with
  | [], _ => rw [List.append_nil]
  | v :: m, h2 => exact absurd h2.symm enc_ne0
theorem DI.bad {b : List Nat} {l : List Vl} {a : Nat} (h : DI b l a) (ha : b.length ≤ a) (hf : (encR l).2 ≠ 0 ∨ (encR l).1 ≠ b) : decR b = ([], 41) := by
  refine decR_no fun K hK h16 hb => ?_
  have := h.all ha hK hb
  subst this
  rw [encR_yes h16 hK.2] at hf
  rcases hf with h | h
  · exact h rfl
  · exact h hb.symm
theorem encR_zero {l : List Vl} (h : (encR l).2 = 0) : l.length ≤ 16 ∧ (∀ v ∈ l, rightB v = true) ∧ (encR l).1 = enc l := by
  unfold encR at h ⊢
  split at h
  · rename_i h2; exact ⟨h2.1, h2.2, by rw [if_pos h2]⟩
  · cases h
theorem DI.good {b : List Nat} {l : List Vl} (hl : VsOk l) (h0 : (encR l).2 = 0) (h1 : (encR l).1 = b) : decR b = (l, 0) := by
  obtain ⟨h2, h3, h4⟩ := encR_zero h0
  exact decR_yes ⟨hl, h3⟩ h2 (by rw [← h1, h4])
attribute [local irreducible] Oper.wp Sem.run Code.wp wpList wpAnyO callFunc execOp Calls
attribute [local irreducible] enc encR rightB toU encV nxB nxN fewB rightL vls vlt cmpZ cmB orL vcmp rcmp esc f8 decR

set_option maxRecDepth 100000 in
theorem rdec_ok (b : List Nat) (hb : Bytes b) (n : Nat) (hn : b.length = n) (ab : Option Addr) (cb : Nat) (hcb : n ≤ cb) (hm : n ≤ 1000000) (w : World) (g : Gh) (hg : Gle g (hw w)) (hG : SlG g ab (bv b)) : Calls Tryd.prog 19 #[.slice ab n cb] w (PostN w fun v G => ∃ oa oc, v = .tuple #[.slice oa (decR b).1.length oc, .int .i64 (decR b).2] ∧ G = [.ow 31 3 oa (decR b).1.length oc (List.flatMap vl (decR b).1)]) := by
  have hS := St.start w
  subst hn
  refine c_enter Tryd.func19 rfl rfl rfl ?_
  refine wp_seq_k (fun K1 hK1 => ?_)
  refine wp_region_lit ?_
  refine l_q rfl rfl (q_assignS rfl) ?_
  refine l_q rfl rfl (q_assignI rfl) ?_
  refine l_nil ?_
  refine hK1 _ _ ?_
  refine wp_seq_k (fun K2 hK2 => ?_)
  refine wp_region_lit ?_
  refine l_q rfl rfl (q_assignS rfl) ?_
  refine l_nil ?_
  refine hK2 _ _ ?_
  refine wp_seq_k (fun K3 hK3 => ?_)
  refine wp_seq_k (fun K4 hK4 => ?_)
  refine wp_region_lit ?_
  refine l_q rfl rfl (q_assignI rfl) ?_
  refine l_nil ?_
  refine hK4 _ _ ?_
  refine wp_block ?_
  have hS5 := hS.ow_nil 31 3; clear hS
  refine c_loop (τ := (List Vl) × Nat × (Option Addr) × Nat) [(2, 7), (10, 34)] (fun x => (fun (l : List Vl) (a : Nat) (oa : Option Addr) (oc : Nat) => [(4, .slice oa l.length oc), (5, .int .i64 ((a : Nat) : Int))]) x.1 x.2.1 x.2.2.1 x.2.2.2) (fun x w' => (fun (l : List Vl) (a : Nat) (oa : Option Addr) (oc : Nat) => St w (fun _ => False) [.ow 31 3 oa l.length oc (List.flatMap vl l)] w' ∧ VsOk l ∧ l.length ≤ 16 ∧ a ≤ b.length ∧ DI b l a) x.1 x.2.1 x.2.2.1 x.2.2.2) (fun x => (fun (l : List Vl) (a : Nat) (oa : Option Addr) (oc : Nat) => b.length - a) x.1 x.2.1 x.2.2.1 x.2.2.2) (⟨[], 0, none, 0⟩) ?_ (by refine ⟨rfl, ⟨rfl, trivial⟩⟩) (fun x6 j6 w6 hJ6 K6 hK6 => ?_)
  ·
    exact ⟨hS5, VsOk.nil, Nat.zero_le _, Nat.zero_le _, DI.zero b⟩
  ·
    obtain ⟨l, a, oa, oc⟩ := x6
    obtain ⟨hS6, hlv, h16, hab, hDI⟩ := hJ6
    try dsimp only at hS6 hlv h16 hab hDI ⊢
    refine wp_seq_k (fun K7 hK7 => ?_)
    refine wp_seq_k (fun K8 hK8 => ?_)
    refine wp_region_lit ?_
    refine l_q rfl rfl (q_moveI rfl) ?_
    refine l_q rfl rfl (q_moveS rfl) ?_
    refine l_q rfl rfl (q_lenSl (e := 5) rfl (by kernel_rfl)) ?_
    refine l_q rfl rfl (q_lss rfl rfl) ?_
    refine l_nil ?_
    refine hK8 _ _ ?_
    refine c_cond rfl (fun hc9 => ?_) (fun hc9 => ?_)
    ·
      have hc9b := hc9
      try simp only [decide_eq_true_eq, decide_eq_false_iff_not, Bool.not_eq_true', Bool.not_eq_false', Bool.and_eq_true, Bool.or_eq_true, Int.not_lt, Int.not_le, ne_eq, Decidable.not_not] at hc9
      refine wp_skip ?_
      refine hK7 _ _ ?_
      refine wp_block ?_
      refine wp_seq_k (fun K10 hK10 => ?_)
      have hdl0 := List.length_drop (i := a) (l := b)
      refine wp_region_lit ?_
      refine l_q rfl rfl (q_moveS rfl) ?_
      refine l_q rfl rfl (q_moveI rfl) ?_
      refine l_q rfl rfl (q_sliceX (e := 5) (size := 1) (l := a) (h := b.length) (m := cb) (ad' := (subS ab a 1 cb)) (len' := (b.length - a)) (cap' := (cb - a)) rfl (by kernel_rfl) (by kernel_rfl) rfl rfl ⟨_, int_nat (by first | rfl | omega) rfl⟩ (by omega) (by first | omega | (simp only [List.length_append, List.length_map, List.length_cons, List.length_nil, List.length_take, List.length_drop, List.length_set] <;> omega)) (by first | omega | (simp only [List.length_append, List.length_map, List.length_cons, List.length_nil, List.length_take, List.length_drop, List.length_set] <;> omega)) rfl rfl rfl rfl) ?_
      refine l_e rfl (fun K hK => ?_)
      refine e_call (by kernel_rfl) (rtake_ok (b.drop a) (Bytes.drop hb) (b.length - a) (by first | omega | (simp only [List.length_append, List.length_map, List.length_cons, List.length_nil, List.length_take, List.length_drop, List.length_set] <;> omega)) _ _ (by first | omega | (simp only [List.length_append, List.length_map, List.length_cons, List.length_nil, List.length_take, List.length_drop, List.length_set] <;> omega)) (by first | omega | (simp only [List.length_append, List.length_map, List.length_cons, List.length_nil, List.length_take, List.length_drop, List.length_set] <;> omega)) (by omega) _ ((bv_subD (by first | omega | (simp only [List.length_append, List.length_map, List.length_cons, List.length_nil, List.length_take, List.length_drop, List.length_set] <;> omega)) (SlG.sub (l := a) (size := 1) (m := cb) (n := b.length - a) (hG.mono hg) (by first | omega | (simp only [List.length_append, List.length_map, List.length_cons, List.length_nil, List.length_take, List.length_drop, List.length_set] <;> omega)) (by decide))).mono hS6.base)) rfl (after_R hS6 (fun v11 w11 hv11 hS11 => ?_))
      clear hS6
      obtain ⟨a11, n11, rfl, ha11, hn11, hT11⟩ := hv11
      refine hK _ _ ?_; clear hK K
      refine l_q rfl rfl (q_move rfl) ?_
      refine l_q rfl rfl (q_extract rfl rfl) ?_
      refine l_q rfl rfl (q_extract rfl rfl) ?_
      refine l_e rfl (fun K hK => ?_)
      refine e_alloc (zv := .agg #[.int .i64 0, .int .i64 0, .string ⟨#[]⟩]) hS11 (by kernel_rfl) (fun b12 w12 (hS12 : St _ _ [.blk b12 (.cells #[.int .i64 (0 : Int), .int .i64 (0 : Int), .string (bs [])] 31), .ow 31 3 oa l.length oc (List.flatMap vl l)] _) => ?_)
      clear hS11
      refine hK _ _ ?_; clear hK K
      refine l_e rfl (fun K hK => ?_)
      refine e_storeA hS12 rfl rfl (by kernel_rfl) (by repeat' (first | exact trivial | refine ⟨by first | rfl | assumption | exact one_if (by assumption), ?_⟩)) (i := 0) rfl rfl (fun w13 (hS13 : St _ _ [.blk b12 (.cells #[.int .i64 a11.1, .int .i64 a11.2.1, .string (bs a11.2.2)] 31), .ow 31 3 oa l.length oc (List.flatMap vl l)] _) => ?_)
      clear hS12
      refine hK _ _ ?_; clear hK K
      refine l_q rfl rfl (q_assignI rfl) ?_
      refine l_nil ?_
      refine hK10 _ _ ?_
      refine wp_seq_k (fun K14 hK14 => ?_)
      refine wp_seq_k (fun K15 hK15 => ?_)
      refine wp_region_lit ?_
      refine l_q rfl rfl (q_moveI rfl) ?_
      refine l_q rfl rfl (q_eql rfl rfl) ?_
      refine l_q rfl rfl (q_moveB rfl) ?_
      refine g_splitL (t := 23) rfl (fun hg16 => ?_) (fun hg16 => ?_)
      ·
        have hg16b := hg16
        try simp only [decide_eq_true_eq, decide_eq_false_iff_not, Bool.not_eq_true', Bool.not_eq_false', Bool.and_eq_true, Bool.or_eq_true, Int.not_lt, Int.not_le, ne_eq, Decidable.not_not] at hg16
        refine l_off rfl rfl rfl hg16b ?_
        refine l_off rfl rfl rfl hg16b ?_
        refine l_off rfl rfl rfl hg16b ?_
        refine l_q rfl rfl (q_pickT rfl hg16b rfl) ?_
        refine l_nil ?_
        refine hK15 _ _ ?_
        refine c_condT rfl rfl ?_
        refine wp_seq_k (fun K18 hK18 => ?_)
        refine wp_region_lit ?_
        refine l_q rfl rfl (q_assignS rfl) ?_
        refine l_q rfl rfl (q_assignI rfl) ?_
        refine l_nil ?_
        refine hK18 _ _ ?_
        refine wp_ret ?_
        refine c_ret2 rfl rfl rfl ?_
        have hdl := List.length_drop (i := a) (l := b)
        have hd : decR b = ([], 41) := by first | exact hDI.fail (by omega) hT11 (by omega) | exact hDI.bad (by omega) (.inl (by omega)) | exact hDI.bad (by omega) (.inr (by first | assumption | (simp at *; assumption)))
        exact ⟨_, _, rfl, ⟨none, 0, by rw [hd]; rfl, by rw [hd]; rfl⟩, hS13.drop.ow_nil _ _⟩
      ·
        have hg16b := hg16
        try simp only [decide_eq_true_eq, decide_eq_false_iff_not, Bool.not_eq_true', Bool.not_eq_false', Bool.and_eq_true, Bool.or_eq_true, Int.not_lt, Int.not_le, ne_eq, Decidable.not_not] at hg16
        refine l_on rfl rfl hg16b ?_
        refine l_q rfl rfl (q_moveS rfl) ?_
        refine l_on rfl rfl hg16b ?_
        refine l_q rfl rfl (q_lenSl (e := 31) rfl (by kernel_rfl)) ?_
        refine l_on rfl rfl hg16b ?_
        refine l_q rfl rfl (q_eql rfl rfl) ?_
        refine l_q rfl rfl (q_pickF rfl hg16b rfl) ?_
        refine l_nil ?_
        refine hK15 _ _ ?_
        refine c_cond rfl (fun hc19 => ?_) (fun hc19 => ?_)
        ·
          have hc19b := hc19
          try simp only [decide_eq_true_eq, decide_eq_false_iff_not, Bool.not_eq_true', Bool.not_eq_false', Bool.and_eq_true, Bool.or_eq_true, Int.not_lt, Int.not_le, ne_eq, Decidable.not_not] at hc19
          refine wp_seq_k (fun K20 hK20 => ?_)
          refine wp_region_lit ?_
          refine l_q rfl rfl (q_assignS rfl) ?_
          refine l_q rfl rfl (q_assignI rfl) ?_
          refine l_nil ?_
          refine hK20 _ _ ?_
          refine wp_ret ?_
          refine c_ret2 rfl rfl rfl ?_
          have hdl := List.length_drop (i := a) (l := b)
          have hd : decR b = ([], 41) := by first | exact hDI.fail (by omega) hT11 (by omega) | exact hDI.bad (by omega) (.inl (by omega)) | exact hDI.bad (by omega) (.inr (by first | assumption | (simp at *; assumption)))
          exact ⟨_, _, rfl, ⟨none, 0, by rw [hd]; rfl, by rw [hd]; rfl⟩, hS13.drop.ow_nil _ _⟩
        ·
          have hc19b := hc19
          try simp only [decide_eq_true_eq, decide_eq_false_iff_not, Bool.not_eq_true', Bool.not_eq_false', Bool.and_eq_true, Bool.or_eq_true, Int.not_lt, Int.not_le, ne_eq, Decidable.not_not] at hc19
          refine wp_skip ?_
          refine hK14 _ _ ?_
          refine wp_seq_k (fun K21 hK21 => ?_)
          refine wp_region_lit ?_
          refine l_q rfl rfl (q_moveS rfl) ?_
          refine l_q rfl rfl (q_loadA (m := 3) rfl (by kernel_rfl) (by kernel_rfl) (hS13.blk (i := 0) rfl) rfl rfl) ?_
          refine l_e rfl (fun K hK => ?_)
          refine e_buildSliceA (e := 31) (m := 3) (zv := .agg #[.int .i64 0, .int .i64 0, .string ⟨#[]⟩]) hS13 (by kernel_rfl) (by kernel_rfl) (by kernel_rfl) rfl rfl rfl rfl (fun b22 w22 (hS22 : St _ _ [.blk b22 (.cells #[.int .i64 a11.1, .int .i64 a11.2.1, .string (bs a11.2.2)] 31), .blk b12 (.cells #[.int .i64 a11.1, .int .i64 a11.2.1, .string (bs a11.2.2)] 31), .ow 31 3 oa l.length oc (List.flatMap vl l)] _) => ?_)
          clear hS13
          have hS22o : St _ _ [.ow 31 3 (some ⟨b22, 0, none⟩) 1 1 (List.flatMap vl [a11]), .blk b12 (.cells #[.int .i64 a11.1, .int .i64 a11.2.1, .string (bs a11.2.2)] 31), .ow 31 3 oa l.length oc (List.flatMap vl l)] _ := hS22.blkOw' (i := 0) (m := 1) (size := 3) (xs := List.flatMap vl [a11]) rfl rfl rfl (by decide); clear hS22
          refine hK _ _ ?_; clear hK K
          refine l_e rfl (fun K hK => ?_)
          refine e_app (e := 31) (size := 3) (bytes := 32) (i := 2) (m' := (l ++ [a11]).length) (by kernel_rfl) hS22o rfl rfl rfl (SlG.src (e := 31) (by kernel_rfl) (hS22o.owG (i := 0) rfl) ((rows_len (c := vl) (m := 3) (fun _ => rfl) _).trans (by first | rfl | (simp only [List.length_append, List.length_map, List.length_cons, List.length_nil, List.length_take, List.length_drop, List.length_set]; done) | (simp only [List.length_append, List.length_map, List.length_cons, List.length_nil, List.length_take, List.length_drop, List.length_set]; omega) | omega)) (by decide) (rows_one vl_ones)) (by first | omega | (simp only [List.length_append, List.length_map, List.length_cons, List.length_nil, List.length_take, List.length_drop, List.length_set] <;> omega) | (simp; done)) rows_app (by first | omega | (simp only [maxLen, List.length_append, List.length_map, List.length_cons, List.length_nil, List.length_take, List.length_drop, List.length_set] <;> omega) | (simp only [maxLen]; omega)) (by first | omega | (simp only [List.length_append, List.length_map, List.length_cons, List.length_nil, List.length_take, List.length_drop, List.length_set] <;> omega)) (fun ad23 cp23 w23 (hS23 : St _ _ [.ow 31 3 (some ⟨b22, 0, none⟩) 1 1 (List.flatMap vl [a11]), .blk b12 (.cells #[.int .i64 a11.1, .int .i64 a11.2.1, .string (bs a11.2.2)] 31), .ow 31 3 ad23 ((l ++ [a11]).length) cp23 (List.flatMap vl (l ++ [a11]))] _) => ?_)
          clear hS22o
          refine hK _ _ ?_; clear hK K
          refine l_q rfl rfl (q_assignS rfl) ?_
          refine l_nil ?_
          refine hK21 _ _ ?_
          refine wp_region_lit ?_
          refine l_q rfl rfl (q_moveI rfl) ?_
          refine l_q rfl rfl (q_moveI rfl) ?_
          refine l_q rfl rfl (q_addx rfl rfl (by first | decide | omega) (by first | decide | omega)) ?_
          refine l_q rfl rfl (q_assignI rfl) ?_
          refine l_nil ?_
          have hS24 := hS23.fr2; clear hS23
          have hS25 : St _ _ [.ow 31 3 ad23 ((l ++ [a11]).length) cp23 (List.flatMap vl (l ++ [a11]))] _ := hS24.only 1; clear hS24
          refine hK6 _ _ (came (⟨(l ++ [a11]), (a + n11), ad23, cp23⟩) (by repeat' (first | exact Agree.refl _ _ | refine Agree.up ?_ rfl | refine Agree.hav2 ?_ rfl | refine Agree.ups2 ?_ rfl)) (by repeat' (first | exact trivial | refine ⟨by first | rfl | exact int_succ _ | exact congrArg (Value.int .i64) (by omega), ?_⟩)) ?_)
          have hdl := List.length_drop (i := a) (l := b)
          exact ⟨⟨hS25, hlv.app (VsOk.one ha11), (by show (l ++ [a11]).length ≤ 16; rw [List.length_append, List.length_singleton]; omega), (by show a + n11 ≤ b.length; omega), hDI.next (by omega) hT11⟩, by (show b.length - (a + n11) < b.length - a); omega⟩
    ·
      have hc9b := hc9
      try simp only [decide_eq_true_eq, decide_eq_false_iff_not, Bool.not_eq_true', Bool.not_eq_false', Bool.and_eq_true, Bool.or_eq_true, Int.not_lt, Int.not_le, ne_eq, Decidable.not_not] at hc9
      refine wp_exit ?_
      refine hK3 _ _ ?_
      refine wp_seq_k (fun K26 hK26 => ?_)
      refine wp_region_lit ?_
      refine l_q rfl rfl (q_moveS rfl) ?_
      refine l_e rfl (fun K hK => ?_)
      have hel27 := encR_len l
      refine e_call (by kernel_rfl) (renc_ok l hlv l.length (by first | omega | (simp only [List.length_append, List.length_map, List.length_cons, List.length_nil, List.length_take, List.length_drop, List.length_set] <;> omega)) _ _ _ (hS6.owG (i := 0) rfl)) rfl (after_N hS6 (fun v27 G27 w27 hv27 hS27 => ?_))
      clear hS6
      obtain ⟨oa27, oc27, rfl, rfl⟩ := hv27
      have hS28 : St _ _ [.ow 5 1 oa27 (((encR l).1).length) oc27 (bv ((encR l).1)), .ow 31 3 oa l.length oc (List.flatMap vl l)] _ := hS27; clear hS27
      refine hK _ _ ?_; clear hK K
      refine l_q rfl rfl (q_move rfl) ?_
      refine l_q rfl rfl (q_extract rfl rfl) ?_
      refine l_q rfl rfl (q_extract rfl rfl) ?_
      refine l_q rfl rfl (q_assignS rfl) ?_
      refine l_q rfl rfl (q_assignI rfl) ?_
      refine l_nil ?_
      refine hK26 _ _ ?_
      refine wp_seq_k (fun K29 hK29 => ?_)
      refine wp_seq_k (fun K30 hK30 => ?_)
      refine wp_region_lit ?_
      refine l_q rfl rfl (q_moveI rfl) ?_
      refine l_q rfl rfl (q_neq rfl rfl) ?_
      refine l_q rfl rfl (q_moveB rfl) ?_
      refine g_splitL (t := 42) rfl (fun hg31 => ?_) (fun hg31 => ?_)
      ·
        have hg31b := hg31
        try simp only [decide_eq_true_eq, decide_eq_false_iff_not, Bool.not_eq_true', Bool.not_eq_false', Bool.and_eq_true, Bool.or_eq_true, Int.not_lt, Int.not_le, ne_eq, Decidable.not_not] at hg31
        refine l_off rfl rfl rfl hg31b ?_
        refine l_off rfl rfl rfl hg31b ?_
        refine l_off rfl rfl rfl hg31b ?_
        refine l_off rfl rfl rfl hg31b ?_
        refine l_off rfl rfl rfl hg31b ?_
        refine l_q rfl rfl (q_pickT rfl hg31b rfl) ?_
        refine l_nil ?_
        refine hK30 _ _ ?_
        refine c_condT rfl rfl ?_
        refine wp_seq_k (fun K33 hK33 => ?_)
        refine wp_region_lit ?_
        refine l_q rfl rfl (q_assignS rfl) ?_
        refine l_q rfl rfl (q_assignI rfl) ?_
        refine l_nil ?_
        refine hK33 _ _ ?_
        refine wp_ret ?_
        refine c_ret2 rfl rfl rfl ?_
        have hdl := List.length_drop (i := a) (l := b)
        have hd : decR b = ([], 41) := by first | exact hDI.fail (by omega) hT11 (by omega) | exact hDI.bad (by omega) (.inl (by omega)) | exact hDI.bad (by omega) (.inr (by first | assumption | (simp at *; assumption)))
        exact ⟨_, _, rfl, ⟨none, 0, by rw [hd]; rfl, by rw [hd]; rfl⟩, hS28.drop.ow_nil _ _⟩
      ·
        have hg31b := hg31
        try simp only [decide_eq_true_eq, decide_eq_false_iff_not, Bool.not_eq_true', Bool.not_eq_false', Bool.and_eq_true, Bool.or_eq_true, Int.not_lt, Int.not_le, ne_eq, Decidable.not_not] at hg31
        refine l_on rfl rfl hg31b ?_
        refine l_q rfl rfl (q_moveS rfl) ?_
        refine l_on rfl rfl hg31b ?_
        refine l_q rfl rfl (q_convBS (l := (encR l).1) rfl (hS28.owG (i := 0) rfl) (by first | omega | (simp only [List.length_append, List.length_map, List.length_cons, List.length_nil, List.length_take, List.length_drop, List.length_set] <;> omega)) (by kernel_rfl) (by kernel_rfl)) ?_
        refine l_on rfl rfl hg31b ?_
        refine l_q rfl rfl (q_moveS rfl) ?_
        refine l_on rfl rfl hg31b ?_
        refine l_q rfl rfl (q_convBS (l := b) rfl ((hG.mono hg).mono hS28.base) (by first | omega | (simp only [List.length_append, List.length_map, List.length_cons, List.length_nil, List.length_take, List.length_drop, List.length_set] <;> omega)) (by kernel_rfl) (by kernel_rfl)) ?_
        refine l_on rfl rfl hg31b ?_
        refine l_q rfl rfl (q_str_neq (l := ((encR l).1)) (m := b) rfl rfl (encR_bytes hlv) hb) ?_
        refine l_q rfl rfl (q_pickF rfl hg31b rfl) ?_
        refine l_nil ?_
        refine hK30 _ _ ?_
        refine c_cond rfl (fun hc34 => ?_) (fun hc34 => ?_)
        ·
          have hc34b := hc34
          try simp only [decide_eq_true_eq, decide_eq_false_iff_not, Bool.not_eq_true', Bool.not_eq_false', Bool.and_eq_true, Bool.or_eq_true, Int.not_lt, Int.not_le, ne_eq, Decidable.not_not] at hc34
          refine wp_seq_k (fun K35 hK35 => ?_)
          refine wp_region_lit ?_
          refine l_q rfl rfl (q_assignS rfl) ?_
          refine l_q rfl rfl (q_assignI rfl) ?_
          refine l_nil ?_
          refine hK35 _ _ ?_
          refine wp_ret ?_
          refine c_ret2 rfl rfl rfl ?_
          have hdl := List.length_drop (i := a) (l := b)
          have hd : decR b = ([], 41) := by first | exact hDI.fail (by omega) hT11 (by omega) | exact hDI.bad (by omega) (.inl (by omega)) | exact hDI.bad (by omega) (.inr (by first | assumption | (simp at *; assumption)))
          exact ⟨_, _, rfl, ⟨none, 0, by rw [hd]; rfl, by rw [hd]; rfl⟩, hS28.drop.ow_nil _ _⟩
        ·
          have hc34b := hc34
          try simp only [decide_eq_true_eq, decide_eq_false_iff_not, Bool.not_eq_true', Bool.not_eq_false', Bool.and_eq_true, Bool.or_eq_true, Int.not_lt, Int.not_le, ne_eq, Decidable.not_not] at hc34
          refine wp_skip ?_
          refine hK29 _ _ ?_
          refine wp_seq_k (fun K36 hK36 => ?_)
          refine wp_region_lit ?_
          refine l_q rfl rfl (q_moveS rfl) ?_
          refine l_q rfl rfl (q_assignS rfl) ?_
          refine l_q rfl rfl (q_assignI rfl) ?_
          refine l_nil ?_
          refine hK36 _ _ ?_
          refine wp_ret ?_
          refine c_ret2 rfl rfl rfl ?_
          have hS37 := hS28.fr1; clear hS28
          have hS38 : St _ _ [.ow 31 3 oa l.length oc (List.flatMap vl l)] _ := hS37.only 1; clear hS37
          have hd := DI.good (b := b) hlv (by first | omega | assumption) (by first | assumption | (simp at *; assumption))
          exact ⟨_, _, rfl, ⟨oa, oc, (congrArg (fun q : List Vl × Int => Value.tuple #[.slice oa q.1.length oc, .int .i64 q.2]) hd).symm, by rw [hd]⟩, hS38⟩

end Go.Proofs.YtcllmnepkglabaaDoor
