/- bytes: Count, Index, Replace. -/
import Derived.Test.YtmemgpcgjephmaaGreatDoorK1
import Derived.Test.YtmemgpcgjephmaaGreatDoorSc
set_option linter.unusedVariables false
set_option linter.unusedSimpArgs false
namespace Go.Proofs.YtmemgpcgjephmaaGreatDoor
open Go.RowKit
/-- Each 0 is followed by 255. -/
def esc (s : List Nat) : List Nat := s.flatMap fun b => if b = 0 then [0, 255] else [b]
theorem esc_nil : esc [] = [] := rfl
theorem esc_app (s t : List Nat) : esc (s ++ t) = esc s ++ esc t := List.flatMap_append
theorem esc_no {s : List Nat} (h : ∀ x ∈ s, x ≠ 0) : esc s = s := by
  induction s with
  | nil => rfl
  | cons a s ih =>
    have h1 : esc (a :: s) = (if a = 0 then [0, 255] else [a]) ++ esc s := rfl
    rw [h1, if_neg (h a (.head _)), ih (fun x hx => h x (.tail _ hx))]; rfl
theorem esc_len (s : List Nat) : (esc s).length = s.length + s.count 0 := by
  induction s with
  | nil => rfl
  | cons a s ih =>
    have h1 : esc (a :: s) = (if a = 0 then [0, 255] else [a]) ++ esc s := rfl
    rw [h1, List.length_append, ih, List.count_cons, List.length_cons]
    by_cases ha : a = 0
    · simp [ha]; omega
    · simp [ha]; omega
theorem esc_bytes {s : List Nat} (h : Bytes s) : Bytes (esc s) := fun x hx => by
  obtain ⟨b, hb, hx⟩ := List.mem_flatMap.1 hx
  have := h b hb
  split at hx
  · simp at hx; omega
  · simp at hx; omega
theorem bv_cpy {tl A : List Nat} {lo N : Nat} (hA : A.length = N) : (bv tl).take (lo * 1) ++ (bv A).take (N * 1) ++ (bv tl).drop (lo * 1 + N * 1) = bv (tl.take lo ++ A ++ tl.drop (lo + N)) := by
  rw [Nat.mul_one, Nat.mul_one]
  unfold bv
  simp only [← List.map_take, ← List.map_drop, ← List.map_append]
  rw [List.take_of_length_le (Nat.le_of_eq hA)]
theorem count_no {s : List Nat} (h : s.count 0 = 0) : ∀ x ∈ s, x ≠ 0 := fun x hx he => by
  subst he
  have := List.count_pos_iff.2 hx
  omega
theorem count_no' {s : List Nat} (h : ∀ x ∈ s, x ≠ 0) : s.count 0 = 0 := List.count_eq_zero.2 fun hm => h 0 hm rfl
/-- What stands when so many are replaced. -/
structure RInv (s : List Nat) (i wi st : Nat) (tl : List Nat) : Prop where
  st_le : st ≤ s.length
  cnt : (s.drop st).count 0 + i = s.count 0
  len : tl.length = (esc s).length
  here : tl.take wi = esc (s.take st)
  wi_eq : wi = (esc (s.take st)).length
theorem RInv.room {s : List Nat} {i wi st : Nat} {tl : List Nat} (h : RInv s i wi st tl) : wi + ((s.drop st).length + (s.drop st).count 0) = (esc s).length := by
  have h1 : esc s = esc (s.take st) ++ esc (s.drop st) := by rw [← esc_app, List.take_append_drop]
  rw [h1, List.length_append, ← h.wi_eq, esc_len (s.drop st)]
theorem RInv.zero {s : List Nat} {tl : List Nat} (h : tl.length = (esc s).length) : RInv s 0 0 0 tl := ⟨Nat.zero_le _, rfl, h, rfl, rfl⟩
theorem RInv.next {s : List Nat} {i wi st ia : Nat} {tl A B : List Nat} (h : RInv s i wi st tl) (hd : s.drop st = A ++ 0 :: B) (hA : A.length = ia) (hn : ∀ x ∈ A, x ≠ 0) :
    RInv s (i + 1) (wi + ia + 2) (st + ia + 1) ((tl.take wi ++ A ++ tl.drop (wi + ia)).take (wi + ia) ++ [0, 255] ++ (tl.take wi ++ A ++ tl.drop (wi + ia)).drop (wi + ia + 2)) := by
  have hr := h.room
  have hdl : (s.drop st).length = ia + 1 + B.length := by rw [hd]; simp; omega
  have hdc : (s.drop st).count 0 = B.count 0 + 1 := by rw [hd, List.count_append, count_no' hn]; simp
  have hwl : wi ≤ tl.length := by rw [h.len]; omega
  have htk : (tl.take wi ++ A).length = wi + ia := by rw [List.length_append, List.length_take, hA]; omega
  have hs : s.take (st + ia + 1) = s.take st ++ (A ++ [0]) := by
    rw [show st + ia + 1 = st + (ia + 1) from by omega, List.take_add, hd]
    congr 1
    rw [show A ++ 0 :: B = (A ++ [0]) ++ B from by simp, List.take_left' (by simp [hA])]
  have hdr : s.drop (st + ia + 1) = B := by
    rw [show st + ia + 1 = st + (ia + 1) from by omega, ← List.drop_drop, hd, show A ++ 0 :: B = (A ++ [0]) ++ B from by simp, List.drop_left' (by simp [hA])]
  have he : esc (s.take (st + ia + 1)) = esc (s.take st) ++ (A ++ [0, 255]) := by
    rw [hs, esc_app, esc_app, esc_no hn]; rfl
  have h1 : (tl.take wi ++ A ++ tl.drop (wi + ia)).take (wi + ia) = tl.take wi ++ A := List.take_left' htk
  refine ⟨?_, ?_, ?_, ?_, ?_⟩
  · have := congrArg List.length hd
    rw [List.length_drop] at this
    simp at this
    have := h.st_le; omega
  · rw [hdr]; have := h.cnt; omega
  · rw [h1]
    simp only [List.length_append, List.length_take, List.length_drop, List.length_cons, List.length_nil, hA]
    have := h.len; omega
  · rw [h1, List.take_left' (by rw [List.length_append, htk]; rfl), he, h.here, List.append_assoc]
  · rw [he, List.length_append, ← h.wi_eq]; simp [hA]; omega
theorem RInv.done {s : List Nat} {i wi st : Nat} {tl : List Nat} (h : RInv s i wi st tl) (hi : s.count 0 ≤ i) : tl.take wi ++ s.drop st ++ tl.drop (wi + (s.drop st).length) = esc s ∧ wi + (s.drop st).length = (esc s).length := by
  have hc := h.cnt
  have hr := h.room
  have h0 : (s.drop st).count 0 = 0 := by omega
  refine ⟨?_, by omega⟩
  have hdr : tl.drop (wi + (s.drop st).length) = [] := List.drop_eq_nil_of_le (by rw [h.len]; omega)
  rw [hdr, List.append_nil, h.here]
  conv => rhs; rw [← List.take_append_drop st s, esc_app]
  rw [esc_no (count_no h0)]
attribute [local irreducible] Oper.wp Sem.run Code.wp wpList wpAnyO callFunc execOp Calls

set_option maxRecDepth 100000 in
theorem cnt_ok (s : List Nat) (hs : Bytes s) (c : Nat) (hc : c < 256) (n : Nat) (hn : s.length = n) (hnl : n ≤ 1000000) (as_ ap : Option Addr) (cs cp_ : Nat) (w : World) (hG : SlG (hw w) as_ (bv s)) (hG2 : SlG (hw w) ap (bv [c])) : Calls Tryz.prog 87 #[.slice as_ n cs, .slice ap 1 cp_] w (PostR w fun v => v = .int .i64 ((s.count c : Nat) : Int)) := by
  have hS := St.start w
  subst hn
  have hcB : Bytes [c] := fun x hx => by rw [List.mem_singleton] at hx; omega
  refine c_enter Tryz.func87 rfl rfl rfl ?_
  refine wp_seq_k (fun K1 hK1 => ?_)
  refine wp_region_lit ?_
  refine l_q rfl rfl (q_assignI rfl) ?_
  refine l_nil ?_
  refine hK1 _ _ ?_
  refine wp_seq_k (fun K2 hK2 => ?_)
  refine wp_seq_k (fun K3 hK3 => ?_)
  refine wp_region_lit ?_
  refine l_q rfl rfl (q_moveS rfl) ?_
  refine l_q rfl rfl (q_lenSl (e := 5) rfl (by kernel_rfl)) ?_
  refine l_q rfl rfl (q_eql rfl rfl) ?_
  refine l_nil ?_
  refine hK3 _ _ ?_
  refine c_condF rfl (by decide) ?_
  refine wp_skip ?_
  refine hK2 _ _ ?_
  refine wp_seq_k (fun K5 hK5 => ?_)
  refine wp_seq_k (fun K6 hK6 => ?_)
  refine wp_region_lit ?_
  refine l_q rfl rfl (q_moveS rfl) ?_
  refine l_q rfl rfl (q_lenSl (e := 5) rfl (by kernel_rfl)) ?_
  refine l_q rfl rfl (q_eql rfl rfl) ?_
  refine l_nil ?_
  refine hK6 _ _ ?_
  refine c_condT rfl (by decide) ?_
  refine wp_seq_k (fun K8 hK8 => ?_)
  refine wp_region_lit ?_
  refine l_q rfl rfl (q_moveS rfl) ?_
  refine l_q rfl rfl (q_moveS rfl) ?_
  refine l_q rfl rfl (q_ixG (e := 5) (m := 1) (j := 0) rfl rfl (by kernel_rfl) (by kernel_rfl) (by first | rfl | omega) (by omega) hG2 (by rw [bv_len]; first | omega | (simp only [lls] <;> omega))) ?_
  refine l_q rfl rfl (q_load1 rfl (by kernel_rfl) (SlG.cell (hG2.mono hS.base) (Gle.refl _) (at1 (bv_at (show [c][0]? = some c from rfl))))) ?_
  refine l_q rfl rfl (q_ext (vs := [.slice as_ s.length cs, .int .u8 ((c : Nat) : Int)]) rfl (by rw [x_cnt, run_cnt (hG.mono hS.base) rfl hs hc]; rfl)) ?_
  refine l_q rfl rfl (q_assignI rfl) ?_
  refine l_nil ?_
  refine hK8 _ _ ?_
  refine wp_ret ?_
  refine c_ret1 rfl rfl ?_
  exact ⟨_, rfl, rfl, hS.drop⟩

set_option maxRecDepth 100000 in
theorem index_ok (s : List Nat) (hs : Bytes s) (c : Nat) (hc : c < 256) (n : Nat) (hn : s.length = n) (hnl : n ≤ 1000000) (as_ ap : Option Addr) (cs cp_ : Nat) (w : World) (hG : SlG (hw w) as_ (bv s)) (hG2 : SlG (hw w) ap (bv [c])) : Calls Tryz.prog 88 #[.slice as_ n cs, .slice ap 1 cp_] w (PostR w fun v => v = .int .i64 (idxB s c)) := by
  have hS := St.start w
  subst hn
  have hcB : Bytes [c] := fun x hx => by rw [List.mem_singleton] at hx; omega
  refine c_enter Tryz.func88 rfl rfl rfl ?_
  refine wp_seq_k (fun K1 hK1 => ?_)
  refine wp_region_lit ?_
  refine l_q rfl rfl (q_assignI rfl) ?_
  refine l_nil ?_
  refine hK1 _ _ ?_
  refine wp_seq_k (fun K2 hK2 => ?_)
  refine wp_region_lit ?_
  refine l_q rfl rfl (q_moveS rfl) ?_
  refine l_q rfl rfl (q_lenSl (e := 5) rfl (by kernel_rfl)) ?_
  refine l_q rfl rfl (q_assignI rfl) ?_
  refine l_nil ?_
  refine hK2 _ _ ?_
  refine wp_seq_k (fun K3 hK3 => ?_)
  refine wp_block ?_
  refine wp_seq_k (fun K4 hK4 => ?_)
  refine wp_region_lit ?_
  refine l_q rfl rfl (q_moveI rfl) ?_
  refine l_q rfl rfl (q_eql rfl rfl) ?_
  refine l_q rfl rfl (q_assignB rfl) ?_
  refine l_nil ?_
  refine hK4 _ _ ?_
  refine c_condF rfl (by decide) ?_
  refine wp_seq_k (fun K6 hK6 => ?_)
  refine wp_region_lit ?_
  refine l_q rfl rfl (q_moveI rfl) ?_
  refine l_q rfl rfl (q_eql rfl rfl) ?_
  refine l_q rfl rfl (q_assignB rfl) ?_
  refine l_nil ?_
  refine hK6 _ _ ?_
  refine c_condT rfl (by decide) ?_
  refine wp_seq_k (fun K8 hK8 => ?_)
  refine wp_region_lit ?_
  refine l_q rfl rfl (q_moveS rfl) ?_
  refine l_q rfl rfl (q_moveS rfl) ?_
  refine l_q rfl rfl (q_ixG (e := 5) (m := 1) (j := 0) rfl rfl (by kernel_rfl) (by kernel_rfl) (by first | rfl | omega) (by omega) hG2 (by rw [bv_len]; first | omega | (simp only [lls] <;> omega))) ?_
  refine l_q rfl rfl (q_load1 rfl (by kernel_rfl) (SlG.cell (hG2.mono hS.base) (Gle.refl _) (at1 (bv_at (show [c][0]? = some c from rfl))))) ?_
  refine l_e rfl (fun K hK => ?_)
  refine e_call (by kernel_rfl) (idx_ok s hs c (by first | decide | omega) s.length (by first | omega | (simp only [lls] <;> omega)) _ _ _ (hG.mono hS.base)) rfl (after_R hS (fun v9 w9 hv9 hS9 => ?_))
  clear hS
  obtain rfl := hv9
  refine hK _ _ ?_; clear hK K
  refine l_q rfl rfl (q_assignI rfl) ?_
  refine l_nil ?_
  refine hK8 _ _ ?_
  refine wp_ret ?_
  refine c_ret1 rfl rfl ?_
  exact ⟨_, rfl, rfl, hS9.drop⟩

set_option maxHeartbeats 1000000 in
set_option maxRecDepth 100000 in
theorem repl_ok (s : List Nat) (hs : Bytes s) (n : Nat) (hn : s.length = n) (hnl : n ≤ 1000000) (as_ ap aw : Option Addr) (cs cp_ cw : Nat) (hsc : n ≤ cs) (w : World) (hG : SlG (hw w) as_ (bv s)) (hG2 : SlG (hw w) ap (bv [0])) (hG3 : SlG (hw w) aw (bv [0, 255])) : Calls Tryz.prog 69 #[.slice as_ n cs, .slice ap 1 cp_, .slice aw 2 cw, .int .i64 (-1)] w (PostN w fun v G => ∃ ad cap, v = .slice ad (esc s).length cap ∧ G = [.ow 5 1 ad (esc s).length cap (bv (esc s))]) := by
  have hS := St.start w
  subst hn
  have hct := List.count_le_length (a := 0) (l := s)
  have hesc := esc_len s
  refine c_enter Tryz.func69 rfl rfl rfl ?_
  refine wp_seq_k (fun K1 hK1 => ?_)
  refine wp_region_lit ?_
  refine l_q rfl rfl (q_assignS rfl) ?_
  refine l_nil ?_
  refine hK1 _ _ ?_
  refine wp_seq_k (fun K2 hK2 => ?_)
  refine wp_region_lit ?_
  refine l_q rfl rfl (q_assignI rfl) ?_
  refine l_nil ?_
  refine hK2 _ _ ?_
  refine wp_seq_k (fun K3 hK3 => ?_)
  refine wp_seq_k (fun K4 hK4 => ?_)
  refine wp_region_lit ?_
  refine l_q rfl rfl (q_moveI rfl) ?_
  refine l_q rfl rfl (q_neq rfl rfl) ?_
  refine l_nil ?_
  refine hK4 _ _ ?_
  refine c_condT rfl (by decide) ?_
  refine wp_region_lit ?_
  refine l_q rfl rfl (q_moveS rfl) ?_
  refine l_q rfl rfl (q_moveS rfl) ?_
  refine l_e rfl (fun K hK => ?_)
  refine e_call (by kernel_rfl) (cnt_ok s hs 0 (by decide) s.length rfl hnl _ _ _ _ _ (hG.mono hS.base) (hG2.mono hS.base)) rfl (after_R hS (fun v6 w6 hv6 hS6 => ?_))
  clear hS
  obtain rfl := hv6
  refine hK _ _ ?_; clear hK K
  refine l_q rfl rfl (q_assignI rfl) ?_
  refine l_nil ?_
  refine hK3 _ _ ?_
  refine wp_seq_k (fun K7 hK7 => ?_)
  refine wp_seq_k (fun K8 hK8 => ?_)
  refine wp_region_lit ?_
  refine l_q rfl rfl (q_moveI rfl) ?_
  refine l_q rfl rfl (q_eql rfl rfl) ?_
  refine l_nil ?_
  refine hK8 _ _ ?_
  refine c_cond rfl (fun hc9 => ?_) (fun hc9 => ?_)
  ·
    have hc9b := hc9
    try simp only [decide_eq_true_eq, decide_eq_false_iff_not, Bool.not_eq_true', Bool.not_eq_false', Bool.and_eq_true, Bool.or_eq_true, Int.not_lt, Int.not_le, ne_eq, Decidable.not_not] at hc9
    have h0 : s.count 0 = 0 := by omega
    refine wp_seq_k (fun K10 hK10 => ?_)
    refine wp_region_lit ?_
    refine l_q rfl rfl (q_moveS rfl) ?_
    refine l_e rfl (fun K hK => ?_)
    have hS11n := hS6.ow_nil 5 1; clear hS6
    refine e_app (e := 5) (size := 1) (bytes := 1) (i := 0) (m' := s.length) (by kernel_rfl) hS11n rfl rfl rfl (SlG.src (e := 5) (by kernel_rfl) (hG.mono hS11n.base) (by first | (simp only [lls, Nat.mul_one]; done) | (simp only [lls]; omega) | rfl | (simp; done)) (by decide) (bv_one _)) (by first | omega | (simp only [lls] <;> omega) | (simp; done)) rfl (by first | omega | (simp only [maxLen, lls] <;> omega) | (simp only [maxLen]; omega)) (by first | omega | (simp only [lls] <;> omega)) (fun ad11 cp11 w11 (hS11 : St _ _ [.ow 5 1 ad11 s.length cp11 (bv s)] _) => ?_)
    clear hS11n
    refine hK _ _ ?_; clear hK K
    refine l_q rfl rfl (q_assignS rfl) ?_
    refine l_nil ?_
    refine hK10 _ _ ?_
    refine wp_ret ?_
    refine c_ret1 rfl rfl ?_
    rw [show bv s = bv (esc s) from by rw [esc_no (count_no h0)]] at hS11
    exact ⟨_, _, rfl, ⟨_, _, congrArg (fun n : Nat => Value.slice ad11 n cp11) (by rw [esc_no (count_no h0)]), by rw [esc_no (count_no h0)]⟩, hS11⟩
  ·
    have hc9b := hc9
    try simp only [decide_eq_true_eq, decide_eq_false_iff_not, Bool.not_eq_true', Bool.not_eq_false', Bool.and_eq_true, Bool.or_eq_true, Int.not_lt, Int.not_le, ne_eq, Decidable.not_not] at hc9
    refine wp_skip ?_
    refine hK7 _ _ ?_
    refine wp_seq_k (fun K12 hK12 => ?_)
    refine wp_seq_k (fun K13 hK13 => ?_)
    refine wp_region_lit ?_
    refine l_q rfl rfl (q_moveI rfl) ?_
    refine l_q rfl rfl (q_lss rfl rfl) ?_
    refine l_q rfl rfl (q_moveB rfl) ?_
    refine l_off rfl rfl rfl (by decide) ?_
    refine l_off rfl rfl rfl (by decide) ?_
    refine l_off rfl rfl rfl (by decide) ?_
    refine l_q rfl rfl (q_pickT rfl (by decide) rfl) ?_
    refine l_nil ?_
    refine hK13 _ _ ?_
    refine c_condT rfl rfl ?_
    refine wp_region_lit ?_
    refine l_q rfl rfl (q_moveI rfl) ?_
    refine l_q rfl rfl (q_assignI rfl) ?_
    refine l_nil ?_
    refine hK12 _ _ ?_
    refine wp_seq_k (fun K15 hK15 => ?_)
    refine wp_region_lit ?_
    refine l_q rfl rfl (q_moveS rfl) ?_
    refine l_q rfl rfl (q_lenSl (e := 5) rfl (by kernel_rfl)) ?_
    refine l_q rfl rfl (q_moveI rfl) ?_
    refine l_q rfl rfl (q_moveS rfl) ?_
    refine l_q rfl rfl (q_lenSl (e := 5) rfl (by kernel_rfl)) ?_
    refine l_q rfl rfl (q_moveS rfl) ?_
    refine l_q rfl rfl (q_lenSl (e := 5) rfl (by kernel_rfl)) ?_
    refine l_q rfl rfl (q_subx rfl rfl (by first | decide | omega) (by first | decide | omega)) ?_
    refine l_q rfl rfl (q_mulx rfl rfl (by first | decide | omega) (by first | decide | omega)) ?_
    refine l_q rfl rfl (q_addx rfl rfl (by first | decide | omega) (by first | decide | omega)) ?_
    refine l_e rfl (fun K hK => ?_)
    refine e_makeB (e := 5) (m := s.length + (s.count 0 * 1)) hS6 (by kernel_rfl) (by kernel_rfl) (by rfl) (by rfl) (by omega) (fun b16 w16 (hS16 : St _ _ [.ow 5 1 (some ⟨b16, 0, none⟩) (s.length + (s.count 0 * 1)) (s.length + (s.count 0 * 1)) (bv (List.replicate (s.length + (s.count 0 * 1)) 0))] _) => ?_)
    clear hS6
    refine hK _ _ ?_; clear hK K
    refine l_q rfl rfl (q_assignS rfl) ?_
    refine l_nil ?_
    refine hK15 _ _ ?_
    refine wp_seq_k (fun K17 hK17 => ?_)
    refine wp_region_lit ?_
    refine l_q rfl rfl (q_assignI rfl) ?_
    refine l_nil ?_
    refine hK17 _ _ ?_
    refine wp_seq_k (fun K18 hK18 => ?_)
    refine wp_region_lit ?_
    refine l_q rfl rfl (q_assignI rfl) ?_
    refine l_nil ?_
    refine hK18 _ _ ?_
    refine wp_seq_k (fun K19 hK19 => ?_)
    refine wp_seq_k (fun K20 hK20 => ?_)
    refine wp_region_lit ?_
    refine l_q rfl rfl (q_moveS rfl) ?_
    refine l_q rfl rfl (q_lenSl (e := 5) rfl (by kernel_rfl)) ?_
    refine l_q rfl rfl (q_gtr rfl rfl) ?_
    refine l_nil ?_
    refine hK20 _ _ ?_
    refine c_condT rfl (by decide) ?_
    refine wp_seq_k (fun K22 hK22 => ?_)
    refine wp_region_lit ?_
    refine l_q rfl rfl (q_moveI rfl) ?_
    refine l_q rfl rfl (q_moveI rfl) ?_
    refine l_nil ?_
    refine hK22 _ _ ?_
    refine wp_block ?_
    refine c_loop (τ := Nat × Nat × Nat × (List Nat)) [(11, 13), (49, 79)] (fun x => (fun (i : Nat) (wi : Nat) (st : Nat) (tl : List Nat) => [(49, .int .i64 ((i : Nat) : Int)), (11, .int .i64 ((wi : Nat) : Int)), (12, .int .i64 ((st : Nat) : Int))]) x.1 x.2.1 x.2.2.1 x.2.2.2) (fun x w' => (fun (i : Nat) (wi : Nat) (st : Nat) (tl : List Nat) => St w (fun _ => False) [.ow 5 1 (some ⟨b16, 0, none⟩) (s.length + (s.count 0 * 1)) (s.length + (s.count 0 * 1)) (bv tl)] w' ∧ i ≤ s.count 0 ∧ RInv s i wi st tl) x.1 x.2.1 x.2.2.1 x.2.2.2) (fun x => (fun (i : Nat) (wi : Nat) (st : Nat) (tl : List Nat) => s.count 0 - i) x.1 x.2.1 x.2.2.1 x.2.2.2) (⟨0, 0, 0, (List.replicate (s.length + (s.count 0 * 1)) 0)⟩) ?_ (by repeat' (first | exact trivial | refine ⟨by first | rfl | exact int_succ _ | assumption, ?_⟩)) (fun x23 j23 w23 hJ23 K23 hK23 => ?_)
    ·
      exact ⟨hS16, Nat.zero_le _, RInv.zero (by rw [List.length_replicate, esc_len, Nat.mul_one])⟩
    ·
      obtain ⟨i, wi, st, tl⟩ := x23
      obtain ⟨hS23, hi, hI⟩ := hJ23
      try dsimp only at hS23 hi hI ⊢
      have hroom0 := hI.room
      have hsl0 := hI.st_le
      have htl0 := hI.len
      have hd0 : (s.drop st).length = s.length - st := List.length_drop
      refine wp_seq_k (fun K24 hK24 => ?_)
      refine wp_region_lit ?_
      refine l_q rfl rfl (q_lss rfl rfl) ?_
      refine l_nil ?_
      refine hK24 _ _ ?_
      refine wp_seq_k (fun K25 hK25 => ?_)
      refine c_cond rfl (fun hc26 => ?_) (fun hc26 => ?_)
      ·
        have hc26b := hc26
        try simp only [decide_eq_true_eq, decide_eq_false_iff_not, Bool.not_eq_true', Bool.not_eq_false', Bool.and_eq_true, Bool.or_eq_true, Int.not_lt, Int.not_le, ne_eq, Decidable.not_not] at hc26
        refine wp_skip ?_
        refine hK25 _ _ ?_
        refine wp_seq_k (fun K27 hK27 => ?_)
        refine wp_block ?_
        refine wp_seq_k (fun K28 hK28 => ?_)
        refine wp_region_lit ?_
        refine l_q rfl rfl (q_moveI rfl) ?_
        refine l_q rfl rfl (q_moveS rfl) ?_
        refine l_q rfl rfl (q_moveI rfl) ?_
        refine l_q rfl rfl (q_sliceX (e := 5) (size := 1) (l := st) (h := s.length) (m := cs) (ad' := (subS as_ st 1 cs)) (len' := (s.length - st)) (cap' := (cs - st)) rfl (by kernel_rfl) (by kernel_rfl) rfl rfl ⟨_, int_nat (by first | rfl | omega) rfl⟩ (by omega) (by first | omega | (simp only [lls] <;> omega)) (by first | omega | (simp only [lls] <;> omega)) rfl rfl rfl rfl) ?_
        refine l_q rfl rfl (q_moveS rfl) ?_
        refine l_e rfl (fun K hK => ?_)
        have hbd := idxB_bd (s.drop st) 0
        refine e_call (by kernel_rfl) (index_ok (s.drop st) (Bytes.drop hs) 0 (by decide) (s.length - st) (by first | omega | (simp only [lls] <;> omega)) (by first | omega | (simp only [lls] <;> omega)) _ _ _ _ _ ((bv_subD (by first | omega | (simp only [lls] <;> omega)) (SlG.sub (l := st) (size := 1) (m := cs) (n := s.length - st) hG (by first | omega | (simp only [lls] <;> omega)) (by decide))).mono hS23.base) (hG2.mono hS23.base)) rfl (after_R hS23 (fun v29 w29 hv29 hS29 => ?_))
        clear hS23
        obtain rfl := hv29
        have hcp : 0 < (s.drop st).count 0 := by have := hI.cnt; omega
        obtain ⟨ia, A, B, hia, hsd, hAl, hAn⟩ : ∃ ia A B, idxB (s.drop st) 0 = ((ia : Nat) : Int) ∧ s.drop st = A ++ 0 :: B ∧ A.length = ia ∧ ∀ x ∈ A, x ≠ 0 := idxB_at (by
            by_cases h : 0 ≤ idxB (s.drop st) 0
            · exact h
            · have := count_no' (idxB_no (Int.not_le.1 h)); omega)
        have hdl : (s.drop st).length = ia + 1 + B.length := by rw [hsd]; simp; omega
        have hdl2 : (s.drop st).length = s.length - st := List.length_drop
        have hroom := hI.room
        have hsl := hI.st_le
        have hAe : (s.drop st).take (st + ia - st) = A := by rw [Nat.add_sub_cancel_left, hsd, List.take_left' hAl]
        have htl := hI.len
        refine hK _ _ ?_; clear hK K
        refine l_q rfl rfl (q_addx rfl rfl (by first | decide | omega) (by first | decide | omega)) ?_
        refine l_q rfl rfl (q_assignI rfl) ?_
        refine l_nil ?_
        refine hK28 _ _ ?_
        refine wp_seq_k (fun K30 hK30 => ?_)
        refine r_any (by kernel_rfl) hS29 (fun w31 hS31 => ?_)
        clear hS29
        refine o_pure (i := 0) (fun _ _ => trivial) rfl rfl (by kernel_rfl) (goes0 rfl) (QOk.then (QOk.inBlock (QOk.then (QOk.then (QOk.inBlock (QOk.then QOk.body)))))) (fun w => q_moveI rfl) ?_
        refine o_pure (i := 1) (fun _ _ => trivial) rfl rfl (by kernel_rfl) (goes0 rfl) (QOk.then (QOk.inBlock (QOk.then (QOk.then (QOk.inBlock (QOk.then QOk.body)))))) (fun w => q_moveS rfl) ?_
        refine o_pure (i := 2) (fun _ _ => trivial) rfl rfl (by kernel_rfl) (goes0 rfl) (QOk.then (QOk.inBlock (QOk.then (QOk.then (QOk.inBlock (QOk.then QOk.body)))))) (fun w => q_moveI rfl) ?_
        have hcp32 := (hS31.owLen (i := 0) rfl).2.1
        refine o_pure (i := 3) (fun _ _ => trivial) rfl rfl (by kernel_rfl) (goes0 rfl) (QOk.then (QOk.inBlock (QOk.then (QOk.then (QOk.inBlock (QOk.then QOk.body)))))) (fun w => q_sliceX (e := 5) (size := 1) (l := wi) (h := (s.length + (s.count 0 * 1))) (m := (s.length + (s.count 0 * 1))) (ad' := (subS (some ⟨b16, 0, none⟩) wi 1 (s.length + (s.count 0 * 1)))) (len' := ((s.length + (s.count 0 * 1)) - wi)) (cap' := ((s.length + (s.count 0 * 1)) - wi)) rfl (by kernel_rfl) (by kernel_rfl) rfl rfl ⟨_, int_nat (by first | rfl | omega) rfl⟩ (by omega) (by first | omega | (simp only [lls] <;> omega)) (by first | omega | (simp only [lls] <;> omega)) rfl rfl rfl rfl) ?_
        refine o_pure (i := 4) (fun _ _ => trivial) rfl rfl (by kernel_rfl) (goes0 rfl) (QOk.then (QOk.inBlock (QOk.then (QOk.then (QOk.inBlock (QOk.then QOk.body)))))) (fun w => q_moveS rfl) ?_
        refine o_pure (i := 5) (fun _ _ => trivial) rfl rfl (by kernel_rfl) (goes0 rfl) (QOk.then (QOk.inBlock (QOk.then (QOk.then (QOk.inBlock (QOk.then QOk.body)))))) (fun w => q_moveI rfl) ?_
        refine o_pure (i := 6) (fun _ _ => trivial) rfl rfl (by kernel_rfl) (goes0 rfl) (QOk.then (QOk.inBlock (QOk.then (QOk.then (QOk.inBlock (QOk.then QOk.body)))))) (fun w => q_moveI rfl) ?_
        refine o_pure (i := 7) (fun _ _ => trivial) rfl rfl (by kernel_rfl) (goes0 rfl) (QOk.then (QOk.inBlock (QOk.then (QOk.then (QOk.inBlock (QOk.then QOk.body)))))) (fun w => q_sliceX (e := 5) (size := 1) (l := st) (h := (st + ia)) (m := cs) (ad' := (subS as_ st 1 cs)) (len' := ((st + ia) - st)) (cap' := (cs - st)) rfl (by kernel_rfl) (by kernel_rfl) rfl ⟨_, int_nat (by first | rfl | omega) rfl⟩ ⟨_, int_nat (by first | rfl | omega) rfl⟩ (by omega) (by first | omega | (simp only [lls] <;> omega)) (by first | omega | (simp only [lls] <;> omega)) rfl rfl rfl rfl) ?_
        refine o_eff (i := 8) (by kernel_rfl) rfl (goes0 rfl) (fun K hK => ?_)
        refine e_cpyX (e := 5) (size := 1) (i := 0) (lo := wi) (mx := (s.length + (s.count 0 * 1))) (N := ia) hS31 (by kernel_rfl) (by kernel_rfl) (by decide) rfl rfl rfl (by first | omega | (simp only [lls] <;> omega)) (by first | omega | (simp only [lls] <;> omega)) rfl (hAe ▸ ((bv_sub (SlG.sub (l := st) (size := 1) (m := cs) (n := (st + ia) - st) hG (by first | omega | (simp only [lls] <;> omega)) (by decide))).mono hS31.base)) (by rw [bv_len, Nat.mul_one]; first | rfl | assumption | omega) (by omega) (fun u hu => bv_one _ u (List.mem_of_mem_take hu)) (bv_cpy (by first | omega | (simp only [lls] <;> omega))) (fun w33 (hS33 : St _ _ [.ow 5 1 (some ⟨b16, 0, none⟩) (s.length + (s.count 0 * 1)) (s.length + (s.count 0 * 1)) (bv (tl.take wi ++ A ++ tl.drop (wi + ia)))] _) => ?_)
        clear hS31
        refine hK _ _ trivial ?_; clear hK K
        refine o_pure (i := 9) (fun _ _ => trivial) rfl rfl (by kernel_rfl) (goes0 rfl) (QOk.then (QOk.inBlock (QOk.then (QOk.then (QOk.inBlock (QOk.then QOk.body)))))) (fun w => q_addx rfl rfl (by first | decide | omega) (by first | decide | omega)) ?_
        refine o_pure (i := 10) (fun _ _ => trivial) rfl rfl (by kernel_rfl) (goes0 rfl) (QOk.then (QOk.inBlock (QOk.then (QOk.then (QOk.inBlock (QOk.then QOk.body)))))) (fun w => q_assignI rfl) ?_
        refine o_done (by kernel_rfl) ?_
        refine hK30 _ _ ?_
        refine wp_seq_k (fun K34 hK34 => ?_)
        refine wp_region_lit ?_
        refine l_q rfl rfl (q_moveI rfl) ?_
        refine l_q rfl rfl (q_moveS rfl) ?_
        refine l_q rfl rfl (q_moveI rfl) ?_
        refine l_q rfl rfl (q_sliceX (e := 5) (size := 1) (l := (wi + ia)) (h := (s.length + (s.count 0 * 1))) (m := (s.length + (s.count 0 * 1))) (ad' := (subS (some ⟨b16, 0, none⟩) (wi + ia) 1 (s.length + (s.count 0 * 1)))) (len' := ((s.length + (s.count 0 * 1)) - (wi + ia))) (cap' := ((s.length + (s.count 0 * 1)) - (wi + ia))) rfl (by kernel_rfl) (by kernel_rfl) rfl rfl ⟨_, int_nat (by first | rfl | omega) rfl⟩ (by omega) (by first | omega | (simp only [lls] <;> omega)) (by first | omega | (simp only [lls] <;> omega)) rfl rfl rfl rfl) ?_
        refine l_q rfl rfl (q_moveS rfl) ?_
        refine l_e rfl (fun K hK => ?_)
        have h1l : (tl.take wi ++ A ++ tl.drop (wi + ia)).length = tl.length := by simp only [List.length_append, List.length_take, List.length_drop, hAl]; omega
        refine e_cpyX (e := 5) (size := 1) (i := 0) (lo := (wi + ia)) (mx := (s.length + (s.count 0 * 1))) (N := 2) hS33 (by kernel_rfl) (by kernel_rfl) (by decide) rfl rfl rfl (by first | omega | (simp only [lls] <;> omega)) (by first | omega | (simp only [lls] <;> omega)) rfl (hG3.mono hS33.base) (by rw [bv_len, Nat.mul_one]; first | rfl | assumption | omega) (by omega) (fun u hu => bv_one _ u (List.mem_of_mem_take hu)) (bv_cpy (by first | omega | (simp only [lls] <;> omega))) (fun w35 (hS35 : St _ _ [.ow 5 1 (some ⟨b16, 0, none⟩) (s.length + (s.count 0 * 1)) (s.length + (s.count 0 * 1)) (bv ((tl.take wi ++ A ++ tl.drop (wi + ia)).take (wi + ia) ++ [0, 255] ++ (tl.take wi ++ A ++ tl.drop (wi + ia)).drop (wi + ia + 2)))] _) => ?_)
        clear hS33
        refine hK _ _ ?_; clear hK K
        refine l_q rfl rfl (q_addx rfl rfl (by first | decide | omega) (by first | decide | omega)) ?_
        refine l_q rfl rfl (q_assignI rfl) ?_
        refine l_nil ?_
        refine hK34 _ _ ?_
        refine wp_region_lit ?_
        refine l_q rfl rfl (q_moveI rfl) ?_
        refine l_q rfl rfl (q_moveS rfl) ?_
        refine l_q rfl rfl (q_lenSl (e := 5) rfl (by kernel_rfl)) ?_
        refine l_q rfl rfl (q_addx rfl rfl (by first | decide | omega) (by first | decide | omega)) ?_
        refine l_q rfl rfl (q_assignI rfl) ?_
        refine l_nil ?_
        refine hK27 _ _ ?_
        refine wp_region_lit ?_
        refine l_q rfl rfl (q_addx rfl rfl (by first | decide | omega) (by first | decide | omega)) ?_
        refine l_q rfl rfl (q_moveI rfl) ?_
        refine l_nil ?_
        refine hK23 _ _ (came (⟨(i + 1), (wi + ia + 2), (st + ia + 1), ((tl.take wi ++ A ++ tl.drop (wi + ia)).take (wi + ia) ++ [0, 255] ++ (tl.take wi ++ A ++ tl.drop (wi + ia)).drop (wi + ia + 2))⟩) (by repeat' (first | exact Agree.refl _ _ | refine Agree.up ?_ rfl | refine Agree.hav2 ?_ rfl | refine Agree.ups2 ?_ rfl)) (by repeat' (first | exact trivial | refine ⟨by first | rfl | exact int_succ _ | exact congrArg (Value.int .i64) (by dsimp only; omega), ?_⟩)) ?_)
        exact ⟨⟨hS35, (by show i + 1 ≤ s.count 0; omega), hI.next hsd hAl hAn⟩, by (show s.count 0 - (i + 1) < s.count 0 - i); omega⟩
      ·
        have hc26b := hc26
        try simp only [decide_eq_true_eq, decide_eq_false_iff_not, Bool.not_eq_true', Bool.not_eq_false', Bool.and_eq_true, Bool.or_eq_true, Int.not_lt, Int.not_le, ne_eq, Decidable.not_not] at hc26
        refine wp_exit ?_
        refine hK19 _ _ ?_
        refine wp_seq_k (fun K36 hK36 => ?_)
        refine r_any (by kernel_rfl) hS23 (fun w37 hS37 => ?_)
        clear hS23
        refine o_pure (i := 0) (fun _ _ => trivial) rfl rfl (by kernel_rfl) (goes0 rfl) (QOk.then QOk.body) (fun w => q_moveI rfl) ?_
        refine o_pure (i := 1) (fun _ _ => trivial) rfl rfl (by kernel_rfl) (goes0 rfl) (QOk.then QOk.body) (fun w => q_moveS rfl) ?_
        refine o_pure (i := 2) (fun _ _ => trivial) rfl rfl (by kernel_rfl) (goes0 rfl) (QOk.then QOk.body) (fun w => q_moveI rfl) ?_
        have hcp38 := (hS37.owLen (i := 0) rfl).2.1
        refine o_pure (i := 3) (fun _ _ => trivial) rfl rfl (by kernel_rfl) (goes0 rfl) (QOk.then QOk.body) (fun w => q_sliceX (e := 5) (size := 1) (l := wi) (h := (s.length + (s.count 0 * 1))) (m := (s.length + (s.count 0 * 1))) (ad' := (subS (some ⟨b16, 0, none⟩) wi 1 (s.length + (s.count 0 * 1)))) (len' := ((s.length + (s.count 0 * 1)) - wi)) (cap' := ((s.length + (s.count 0 * 1)) - wi)) rfl (by kernel_rfl) (by kernel_rfl) rfl rfl ⟨_, int_nat (by first | rfl | omega) rfl⟩ (by omega) (by first | omega | (simp only [lls] <;> omega)) (by first | omega | (simp only [lls] <;> omega)) rfl rfl rfl rfl) ?_
        refine o_pure (i := 4) (fun _ _ => trivial) rfl rfl (by kernel_rfl) (goes0 rfl) (QOk.then QOk.body) (fun w => q_moveS rfl) ?_
        refine o_pure (i := 5) (fun _ _ => trivial) rfl rfl (by kernel_rfl) (goes0 rfl) (QOk.then QOk.body) (fun w => q_moveI rfl) ?_
        refine o_pure (i := 6) (fun _ _ => trivial) rfl rfl (by kernel_rfl) (goes0 rfl) (QOk.then QOk.body) (fun w => q_sliceX (e := 5) (size := 1) (l := st) (h := s.length) (m := cs) (ad' := (subS as_ st 1 cs)) (len' := (s.length - st)) (cap' := (cs - st)) rfl (by kernel_rfl) (by kernel_rfl) rfl rfl ⟨_, int_nat (by first | rfl | omega) rfl⟩ (by omega) (by first | omega | (simp only [lls] <;> omega)) (by first | omega | (simp only [lls] <;> omega)) rfl rfl rfl rfl) ?_
        refine o_eff (i := 7) (by kernel_rfl) rfl (goes0 rfl) (fun K hK => ?_)
        have hdone := hI.done (by omega)
        have hdl2 : (s.drop st).length = s.length - st := List.length_drop
        refine e_cpyX (e := 5) (size := 1) (i := 0) (lo := wi) (mx := (s.length + (s.count 0 * 1))) (N := (s.length - st)) hS37 (by kernel_rfl) (by kernel_rfl) (by decide) rfl rfl rfl (by first | omega | (simp only [lls] <;> omega)) (by first | omega | (simp only [lls] <;> omega)) rfl ((bv_subD (by first | omega | (simp only [lls] <;> omega)) (SlG.sub (l := st) (size := 1) (m := cs) (n := s.length - st) hG (by first | omega | (simp only [lls] <;> omega)) (by decide))).mono hS37.base) (by rw [bv_len, Nat.mul_one]; first | rfl | assumption | omega) (by omega) (fun u hu => bv_one _ u (List.mem_of_mem_take hu)) (bv_cpy (by first | omega | (simp only [lls] <;> omega))) (fun w39 (hS39 : St _ _ [.ow 5 1 (some ⟨b16, 0, none⟩) (s.length + (s.count 0 * 1)) (s.length + (s.count 0 * 1)) (bv (tl.take wi ++ s.drop st ++ tl.drop (wi + (s.length - st))))] _) => ?_)
        clear hS37
        have hS40 : St _ _ [.ow 5 1 (some ⟨b16, 0, none⟩) (s.length + (s.count 0 * 1)) (s.length + (s.count 0 * 1)) (bv (esc s))] _ := hS39.cast (by rw [← hdone.1, hdl2]); clear hS39
        refine hK _ _ trivial ?_; clear hK K
        refine o_pure (i := 8) (fun _ _ => trivial) rfl rfl (by kernel_rfl) (goes0 rfl) (QOk.then QOk.body) (fun w => q_addx rfl rfl (by first | decide | omega) (by first | decide | omega)) ?_
        refine o_pure (i := 9) (fun _ _ => trivial) rfl rfl (by kernel_rfl) (goes0 rfl) (QOk.then QOk.body) (fun w => q_assignI rfl) ?_
        refine o_done (by kernel_rfl) ?_
        refine hK36 _ _ ?_
        refine wp_seq_k (fun K41 hK41 => ?_)
        refine wp_region_lit ?_
        refine l_q rfl rfl (q_moveS rfl) ?_
        refine l_q rfl rfl (q_moveI rfl) ?_
        refine l_q rfl rfl (q_sliceX (e := 5) (size := 1) (l := 0) (h := (wi + (s.length - st))) (m := (s.length + (s.count 0 * 1))) (ad' := (some ⟨b16, 0, none⟩)) (len' := (wi + (s.length - st))) (cap' := (s.length + (s.count 0 * 1))) rfl (by kernel_rfl) (by kernel_rfl) rfl ⟨_, int_nat (by first | rfl | omega) rfl⟩ ⟨_, int_nat (by first | rfl | omega) rfl⟩ (by omega) (by first | omega | (simp only [lls] <;> omega)) (by first | omega | (simp only [lls] <;> omega)) rfl subS_zero (Nat.sub_zero _) (Nat.sub_zero _)) ?_
        refine l_q rfl rfl (q_assignS rfl) ?_
        refine l_nil ?_
        refine hK41 _ _ ?_
        refine wp_ret ?_
        refine c_ret1 rfl rfl ?_
        have hN : (esc s).length = s.length + (s.count 0 * 1) := by rw [esc_len, Nat.mul_one]
        exact ⟨_, _, rfl, ⟨_, _, congrArg (fun n : Nat => Value.slice _ n _) (show wi + (s.length - st) = (esc s).length from by have := hdone.2; omega), by rw [hN]⟩, hS40⟩

end Go.Proofs.YtmemgpcgjephmaaGreatDoor
