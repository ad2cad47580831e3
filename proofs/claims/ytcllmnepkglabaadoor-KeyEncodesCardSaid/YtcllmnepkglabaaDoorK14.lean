/- The document's take. -/
import Derived.Test.YtcllmnepkglabaaDoorK11
import Derived.Test.YtcllmnepkglabaaDoorSn
set_option linter.unusedVariables false
set_option linter.unusedSimpArgs false
namespace Go.Proofs.YtcllmnepkglabaaDoor
open Go.RowKit
def RT (b : List Nat) (a : Vl) (n : Nat) : Prop := ∀ a0 r, VOk a0 → rightB a0 = true → b = encV a0 ++ r → a = a0 ∧ n = (encV a0).length
def RTakeP (b : List Nat) (v : Value) : Prop := ∃ a n, v = .tuple #[.agg (vl a).toArray, .int .i64 ((n : Nat) : Int)] ∧ VOk a ∧ n ≤ b.length ∧ RT b a n
theorem RTakeP.mk {b : List Nat} {a : Vl} {n : Nat} (ha : VOk a) (hn : n ≤ b.length) (h : RT b a n) : RTakeP b (.tuple #[.agg (vl a).toArray, .int .i64 ((n : Nat) : Int)]) := ⟨a, n, rfl, ha, hn, h⟩
theorem rt_no {b : List Nat} {a : Vl} {n : Nat} (h : NoTake b) : RT b a n := fun a0 r h0 hr he => absurd he (h a0 r h0 hr)
theorem encV_length (a : Vl) : (encV a).length = 1 + (encB a).length := by unfold encV; rw [List.length_cons]; omega
theorem rt0 {b : List Nat} {x : Nat} (hx : b[0]? = some x) (h : x = 0) : RT b ((x : Int), 0, []) 1 := by
  intro a0 r h0 hr he
  obtain ⟨k, _⟩ := tk_head hx hr he
  obtain ⟨s0, _, _, _⟩ := right_s hr
  have h1 := s0 (by omega)
  refine ⟨(vl_ext k h1.1 h1.2).symm, ?_⟩
  rw [encV_length, encB0 (by omega)]; rfl
theorem rt1 {b : List Nat} {x c : Nat} (hx : b[0]? = some x) (h : x = 1) (hc : b[1]? = some c) : RT b ((x : Int), (c : Int), []) 2 := by
  intro a0 r h0 hr he
  obtain ⟨k, h2⟩ := tk_head hx hr he
  obtain ⟨_, s1, _, _⟩ := right_s hr
  obtain ⟨_, _, k1, _⟩ := right_k hr
  have h3 := k1 (by omega)
  have hd : (b.drop 1)[0]? = some c := by rw [List.getElem?_drop]; exact hc
  rw [h2, encB1 (by omega)] at hd
  have h4 : a0.2.1.toNat % 256 = c := by simpa using hd
  refine ⟨(vl_ext k (by show a0.2.1 = (c : Int); omega) (s1 (by omega))).symm, ?_⟩
  rw [encV_length, encB1 (by omega)]; rfl
theorem be8_inj {u u' : Nat} (h : be8 u = be8 u') (h1 : u < 18446744073709551616) (h2 : u' < 18446744073709551616) : u = u' := by
  have h7 := bek_lt [] [] 8 u u'
  have h8 := bek_lt [] [] 8 u' u
  rw [← be8_bek, ← be8_bek, h, bl_irr, show (256 : Nat) ^ 8 = 18446744073709551616 from by decide, Nat.mod_eq_of_lt h1, Nat.mod_eq_of_lt h2] at h7 h8
  by_cases hq : u = u'
  · exact hq
  · rw [if_neg hq] at h7
    rw [if_neg (fun h => hq h.symm)] at h8
    have h7' := of_decide_eq_false h7.symm
    have h8' := of_decide_eq_false h8.symm
    omega
theorem rt2 {b : List Nat} {x : Nat} {z : Int} (hx : b[0]? = some x) (h : x = 2 ∨ x = 3) (hB : Bytes b) (hl : 9 ≤ b.length) (hz : z = IntKind.i64.wrap (((f8 ((b.drop 1).take 8)) ^^^ 9223372036854775808 : Nat) : Int)) : RT b ((x : Int), z, []) 9 := by
  intro a0 r h0 hr he
  obtain ⟨k, h2⟩ := tk_head hx hr he
  obtain ⟨_, _, s2, _⟩ := right_s hr
  obtain ⟨h3, h4⟩ := be8_f8 (l := (b.drop 1).take 8) hB.drop.take (by rw [List.length_take, List.length_drop]; omega)
  have h5 : (b.drop 1).take 8 = be8 (bia a0.2.1) := by rw [h2, encB2 (by omega)]; exact List.take_left' rfl
  have h6 : f8 ((b.drop 1).take 8) = bia a0.2.1 := be8_inj (by rw [h3, h5]) h4 (by have h6 := bia_eq h0.2.2; have h7 := h0.2.2; omega)
  have h7 := bia_eq h0.2.2
  have h8 : z = a0.2.1 := by
    rw [hz, h6, xor_top (by omega), IntKind.wrap_i64]
    try unfold wrap64
    omega
  refine ⟨(vl_ext k h8.symm (s2 (by omega))).symm, ?_⟩
  rw [encV_length, encB2 (by omega)]; rfl
theorem i64_in2 (z : Int) : -9223372036854775808 ≤ IntKind.i64.wrap z ∧ IntKind.i64.wrap z ≤ 9223372036854775807 := by
  rw [IntKind.wrap_i64]
  try unfold wrap64
  omega
theorem f8_stepB {b : List Nat} {j x : Nat} (hb : Bytes b) (hx : b[j + 1]? = some x) (hj : j < 8) : ((256 * f8 ((b.drop 1).take j) % 18446744073709551616) + x) % 18446744073709551616 = f8 ((b.drop 1).take (j + 1)) := by
  have h1 := f8_lt 7 ((b.drop 1).take j) hb.drop.take (by rw [List.length_take]; omega)
  have h2 := hb x (List.mem_of_getElem? hx)
  have h3 : (b.drop 1)[j]? = some x := by rw [List.getElem?_drop, Nat.add_comm]; exact hx
  rw [List.take_add_one, h3]
  show _ = f8 ((b.drop 1).take j ++ [x])
  have h4 : (256 : Nat) ^ 7 = 72057594037927936 := by decide
  rw [f8_app]; omega
/-- How far a text is taken. -/
def TI (b s : List Nat) (i : Nat) : Prop := ∀ s0 r, b.drop 1 = esc s0 ++ 0 :: 1 :: r → ∃ t, s0 = s ++ t ∧ b.drop i = esc t ++ 0 :: 1 :: r ∧ i = 1 + (esc s).length
theorem TI.zero (b : List Nat) : TI b [] 1 := fun s0 r h => ⟨s0, rfl, h, rfl⟩
theorem drop_cons {b : List Nat} {i x : Nat} (h : b[i]? = some x) : b.drop i = x :: b.drop (i + 1) := by
  obtain ⟨hi, rfl⟩ := List.getElem?_eq_some_iff.1 h
  exact List.drop_eq_getElem_cons hi
theorem TI.step {b s : List Nat} {i x : Nat} (h : TI b s i) (hx : b[i]? = some x) (hc : ¬(x = 0 ∧ b[i + 1]? = some 1)) : (x = 0 → TI b (s ++ [x]) (i + 1 + 1)) ∧ (x ≠ 0 → TI b (s ++ [x]) (i + 1)) := by
  have key : ∀ s0 r, b.drop 1 = esc s0 ++ 0 :: 1 :: r → ∃ y t, s0 = s ++ y :: t ∧ y = x ∧ i = 1 + (esc s).length ∧ b.drop (i + 1) = (if x = 0 then [255] else []) ++ (esc t ++ 0 :: 1 :: r) := by
    intro s0 r h0
    obtain ⟨t, rfl, h1, h2⟩ := h s0 r h0
    rw [drop_cons hx] at h1
    match t with
    | [] =>
      exfalso
      have h3 : x = 0 ∧ b.drop (i + 1) = 1 :: r := by simpa [esc] using h1
      apply hc
      refine ⟨h3.1, ?_⟩
      have := congrArg (fun l : List Nat => l[0]?) h3.2
      simpa [List.getElem?_drop] using this
    | y :: t =>
      rw [esc_cons] at h1
      by_cases hy : y = 0
      · subst hy
        have h3 : x = 0 ∧ b.drop (i + 1) = 255 :: (esc t ++ 0 :: 1 :: r) := by simpa using h1
        exact ⟨0, t, rfl, h3.1.symm, h2, by rw [if_pos h3.1]; exact h3.2⟩
      · rw [if_neg hy] at h1
        have h3 : x = y ∧ b.drop (i + 1) = esc t ++ 0 :: 1 :: r := by simpa using h1
        exact ⟨y, t, rfl, h3.1.symm, h2, by rw [if_neg (by rw [h3.1]; exact hy)]; exact h3.2⟩
  refine ⟨fun h0 s0 r hs => ?_, fun h0 s0 r hs => ?_⟩
  · obtain ⟨y, t, rfl, rfl, h2, h3⟩ := key s0 r hs
    refine ⟨t, by simp, ?_, ?_⟩
    · rw [if_pos h0] at h3
      have h4 : b.drop (i + 1 + 1) = (b.drop (i + 1)).drop 1 := by rw [List.drop_drop]
      rw [h4, h3]; rfl
    · rw [esc_app, List.length_append, h0]
      show i + 1 + 1 = 1 + ((esc s).length + 2); omega
  · obtain ⟨y, t, rfl, rfl, h2, h3⟩ := key s0 r hs
    refine ⟨t, by simp, ?_, ?_⟩
    · rw [if_neg h0] at h3; exact h3
    · rw [esc_app, List.length_append, esc_cons, if_neg h0]
      show i + 1 = 1 + ((esc s).length + 1); omega
theorem rt4 {b s : List Nat} {i x : Nat} (h : TI b s i) (hx0 : b[0]? = some x) (hk : x = 4 ∨ x = 5) {x0 x1 : Nat} (hx : b[i]? = some x0) (hy : b[i + 1]? = some x1) (h0 : x0 = 0) (h1 : x1 = 1) : RT b ((x : Int), 0, s) (i + 2) := by
  intro a0 r h00 hr he
  obtain ⟨k, h2⟩ := tk_head hx0 hr he
  obtain ⟨_, _, _, s4⟩ := right_s hr
  rw [encB4 (by omega), List.append_assoc] at h2
  obtain ⟨t, h3, h4, h5⟩ := h _ _ h2
  have ht : t = [] := by
    rw [drop_cons hx, drop_cons hy] at h4
    match t with
    | [] => rfl
    | y :: t =>
      rw [esc_cons] at h4
      by_cases hy0 : y = 0
      · subst hy0; simp at h4; omega
      · rw [if_neg hy0] at h4; simp at h4; omega
  subst ht
  rw [List.append_nil] at h3
  refine ⟨(vl_ext k (s4 (by omega)) h3).symm, ?_⟩
  rw [encV_length, encB4 (by omega), List.length_append, h3]
  show i + 2 = 1 + ((esc s).length + 2); omega
theorem rt4n {b s : List Nat} {i x : Nat} (h : TI b s i) (hx0 : b[0]? = some x) (hk : x = 4 ∨ x = 5) (hi : b.length ≤ i) : NoTake b := by
  intro a0 r h00 hr he
  obtain ⟨k, h2⟩ := tk_head hx0 hr he
  rw [encB4 (by omega), List.append_assoc] at h2
  obtain ⟨t, _, h4, _⟩ := h _ _ h2
  rw [List.drop_eq_nil_of_le hi] at h4
  have := congrArg List.length h4
  simp at this
theorem tk6n {b : List Nat} {x : Nat} (hx : b[0]? = some x) (h : ¬x = 0 ∧ ¬x = 1 ∧ ¬x = 2 ∧ ¬x = 3 ∧ ¬x = 4 ∧ ¬x = 5) : NoTake b := by
  intro a r ha hra he
  obtain ⟨k, h2⟩ := tk_head hx hra he
  obtain ⟨k0, k5, _, _⟩ := right_k hra
  omega
attribute [local irreducible] Oper.wp Sem.run Code.wp wpList wpAnyO callFunc execOp Calls
attribute [local irreducible] enc encR rightB toU encV nxB nxN fewB rightL vls vlt
attribute [local irreducible] cmpZ cmB orL vcmp rcmp esc f8

set_option maxHeartbeats 1000000 in
set_option maxRecDepth 100000 in
theorem rtake_ok (b : List Nat) (hb : Bytes b) (n : Nat) (hn : b.length = n) (ab : Option Addr) (cb : Nat) (hcb : n ≤ cb) (hm : n ≤ 1000000) (hp : 0 < n) (w : World) (hG : SlG (hw w) ab (bv b)) : Calls Tryd.prog 32 #[.slice ab n cb] w (PostR w fun v => RTakeP b v) := by
  have hS := St.start w
  subst hn
  refine c_enter Tryd.func32 rfl rfl rfl ?_
  refine wp_seq_k (fun K1 hK1 => ?_)
  refine wp_region_lit ?_
  refine l_e rfl (fun K hK => ?_)
  refine e_alloc (zv := .agg #[.int .i64 0, .int .i64 0, .string ⟨#[]⟩]) hS (by kernel_rfl) (fun b2 w2 (hS2 : St _ _ [.blk b2 (.cells #[.int .i64 (0 : Int), .int .i64 (0 : Int), .string (bs [])] 31)] _) => ?_)
  clear hS
  refine hK _ _ ?_; clear hK K
  refine l_q rfl rfl (q_assignI rfl) ?_
  refine l_nil ?_
  refine hK1 _ _ ?_
  refine wp_seq_k (fun K3 hK3 => ?_)
  refine wp_region_lit ?_
  refine l_q rfl rfl (q_moveS rfl) ?_
  refine l_q rfl rfl (q_ixG (e := 5) (m := 1) (j := 0) rfl rfl (by kernel_rfl) (by kernel_rfl) (by first | rfl | omega) (by omega) hG (by rw [bv_len]; first | omega | (simp only [List.length_append, List.length_map, List.length_cons, List.length_nil, List.length_take, List.length_drop, List.length_set] <;> omega))) ?_
  obtain ⟨x4, hx4⟩ : ∃ x, (b)[0]? = some x := ⟨_, List.getElem?_eq_getElem (by first | omega | (simp only [List.length_append, List.length_map, List.length_cons, List.length_nil, List.length_take, List.length_drop, List.length_set] <;> omega) | (simp <;> omega))⟩
  have hb4 : x4 < 256 := hb x4 (List.mem_of_getElem? hx4)
  refine l_q rfl rfl (q_load1 rfl (by kernel_rfl) (SlG.cell (hG.mono hS2.base) (Gle.refl _) (at1 (bv_at hx4)))) ?_
  refine l_q rfl rfl (q_convN (a := x4) rfl (by kernel_rfl) (by kernel_rfl) (wrap_fit_i64 (by omega))) ?_
  refine l_q rfl rfl (q_build (ps := [(0, 1), (1, 1), (2, 1)]) (zv := .agg #[.int .i64 0, .int .i64 0, .string ⟨#[]⟩]) (by kernel_rfl) (by kernel_rfl) rfl (by repeat' (first | exact trivial | refine ⟨fun _ => by first | rfl | assumption | exact one_if (by assumption), ?_⟩ | refine ⟨fun ⟨_, h⟩ => by simp at h, ?_⟩)) rfl) ?_
  refine l_e rfl (fun K hK => ?_)
  refine e_alloc (zv := .agg #[.int .i64 0, .int .i64 0, .string ⟨#[]⟩]) hS2 (by kernel_rfl) (fun b5 w5 (hS5 : St _ _ [.blk b5 (.cells #[.int .i64 (0 : Int), .int .i64 (0 : Int), .string (bs [])] 31), .blk b2 (.cells #[.int .i64 (0 : Int), .int .i64 (0 : Int), .string (bs [])] 31)] _) => ?_)
  clear hS2
  refine hK _ _ ?_; clear hK K
  refine l_e rfl (fun K hK => ?_)
  refine e_storeA hS5 rfl rfl (by kernel_rfl) (by repeat' (first | exact trivial | refine ⟨by first | rfl | assumption | exact one_if (by assumption), ?_⟩)) (i := 0) rfl rfl (fun w6 (hS6 : St _ _ [.blk b5 (.cells #[.int .i64 ((x4 : Nat) : Int), .int .i64 (0 : Int), .string (bs [])] 31), .blk b2 (.cells #[.int .i64 (0 : Int), .int .i64 (0 : Int), .string (bs [])] 31)] _) => ?_)
  clear hS5
  refine hK _ _ ?_; clear hK K
  refine l_nil ?_
  refine hK3 _ _ ?_
  refine wp_seq_k (fun K7 hK7 => ?_)
  refine wp_region_lit ?_
  refine l_q rfl rfl (q_assignI rfl) ?_
  refine l_nil ?_
  refine hK7 _ _ ?_
  refine wp_seq_k (fun K8 hK8 => ?_)
  refine wp_seq_k (fun K9 hK9 => ?_)
  refine wp_region_lit ?_
  refine l_q rfl rfl (q_fieldAddr (ft := 29) (o := 0) rfl (by kernel_rfl)) ?_
  refine l_q rfl rfl (q_load1 rfl (by kernel_rfl) (hS6.cell (i := 0) rfl rfl)) ?_
  refine l_nil ?_
  refine hK9 _ _ ?_
  refine wp_block ?_
  refine wp_seq_k (fun K10 hK10 => ?_)
  refine wp_region_lit ?_
  refine l_q rfl rfl (q_eql rfl rfl) ?_
  refine l_q rfl rfl (q_assignB rfl) ?_
  refine l_nil ?_
  refine hK10 _ _ ?_
  refine c_cond rfl (fun hc11 => ?_) (fun hc11 => ?_)
  ·
    have hc11b := hc11
    try simp only [decide_eq_true_eq, decide_eq_false_iff_not, Bool.not_eq_true', Bool.not_eq_false', Bool.and_eq_true, Bool.or_eq_true, Int.not_lt, Int.not_le, ne_eq, Decidable.not_not] at hc11
    refine wp_skip ?_
    refine hK8 _ _ ?_
    refine wp_seq_k (fun K12 hK12 => ?_)
    refine wp_region_lit ?_
    refine l_q rfl rfl (q_loadA (m := 3) rfl (by kernel_rfl) (by kernel_rfl) (hS6.blk (i := 0) rfl) rfl rfl) ?_
    refine l_q rfl rfl (q_moveI rfl) ?_
    refine l_e rfl (fun K hK => ?_)
    refine e_storeA hS6 rfl rfl (by kernel_rfl) (by repeat' (first | exact trivial | refine ⟨by first | rfl | assumption | exact one_if (by assumption), ?_⟩)) (i := 1) rfl rfl (fun w13 (hS13 : St _ _ [.blk b5 (.cells #[.int .i64 ((x4 : Nat) : Int), .int .i64 (0 : Int), .string (bs [])] 31), .blk b2 (.cells #[.int .i64 ((x4 : Nat) : Int), .int .i64 (0 : Int), .string (bs [])] 31)] _) => ?_)
    clear hS6
    refine hK _ _ ?_; clear hK K
    refine l_q rfl rfl (q_assignI rfl) ?_
    refine l_nil ?_
    refine hK12 _ _ ?_
    refine wp_ret ?_
    refine c_retCT (m := 3) rfl (by kernel_rfl) (by kernel_rfl) rfl (hS13.blk (i := 1) rfl) rfl rfl ?_
    exact ⟨_, rfl, RTakeP.mk (a := (((x4 : Nat) : Int), (0 : Int), [])) (n := 1) (vok_mk Bytes.nil ⟨by omega, by omega⟩ ⟨by omega, by omega⟩) (by omega) (rt0 hx4 (by omega)), hS13.drop⟩
  ·
    have hc11b := hc11
    try simp only [decide_eq_true_eq, decide_eq_false_iff_not, Bool.not_eq_true', Bool.not_eq_false', Bool.and_eq_true, Bool.or_eq_true, Int.not_lt, Int.not_le, ne_eq, Decidable.not_not] at hc11
    refine wp_seq_k (fun K14 hK14 => ?_)
    refine wp_region_lit ?_
    refine l_q rfl rfl (q_eql rfl rfl) ?_
    refine l_q rfl rfl (q_assignB rfl) ?_
    refine l_nil ?_
    refine hK14 _ _ ?_
    refine c_cond rfl (fun hc15 => ?_) (fun hc15 => ?_)
    ·
      have hc15b := hc15
      try simp only [decide_eq_true_eq, decide_eq_false_iff_not, Bool.not_eq_true', Bool.not_eq_false', Bool.and_eq_true, Bool.or_eq_true, Int.not_lt, Int.not_le, ne_eq, Decidable.not_not] at hc15
      refine wp_seq_k (fun K16 hK16 => ?_)
      refine wp_seq_k (fun K17 hK17 => ?_)
      refine wp_region_lit ?_
      refine l_q rfl rfl (q_moveS rfl) ?_
      refine l_q rfl rfl (q_lenSl (e := 5) rfl (by kernel_rfl)) ?_
      refine l_q rfl rfl (q_lss rfl rfl) ?_
      refine l_nil ?_
      refine hK17 _ _ ?_
      refine c_cond rfl (fun hc18 => ?_) (fun hc18 => ?_)
      ·
        have hc18b := hc18
        try simp only [decide_eq_true_eq, decide_eq_false_iff_not, Bool.not_eq_true', Bool.not_eq_false', Bool.and_eq_true, Bool.or_eq_true, Int.not_lt, Int.not_le, ne_eq, Decidable.not_not] at hc18
        refine wp_seq_k (fun K19 hK19 => ?_)
        refine wp_region_lit ?_
        refine l_q rfl rfl (q_loadA (m := 3) rfl (by kernel_rfl) (by kernel_rfl) (hS6.blk (i := 0) rfl) rfl rfl) ?_
        refine l_e rfl (fun K hK => ?_)
        refine e_storeA hS6 rfl rfl (by kernel_rfl) (by repeat' (first | exact trivial | refine ⟨by first | rfl | assumption | exact one_if (by assumption), ?_⟩)) (i := 1) rfl rfl (fun w20 (hS20 : St _ _ [.blk b5 (.cells #[.int .i64 ((x4 : Nat) : Int), .int .i64 (0 : Int), .string (bs [])] 31), .blk b2 (.cells #[.int .i64 ((x4 : Nat) : Int), .int .i64 (0 : Int), .string (bs [])] 31)] _) => ?_)
        clear hS6
        refine hK _ _ ?_; clear hK K
        refine l_q rfl rfl (q_assignI rfl) ?_
        refine l_nil ?_
        refine hK19 _ _ ?_
        refine wp_ret ?_
        refine c_retCT (m := 3) rfl (by kernel_rfl) (by kernel_rfl) rfl (hS20.blk (i := 1) rfl) rfl rfl ?_
        exact ⟨_, rfl, RTakeP.mk (a := (((x4 : Nat) : Int), (0 : Int), [])) (n := 0) (vok_mk Bytes.nil ⟨by omega, by omega⟩ ⟨by omega, by omega⟩) (by omega) (rt_no ((tk1n (r := []) (a := ((0 : Int), (0 : Int), [])) hx4 (by omega) (by omega)).2 rfl)), hS20.drop⟩
      ·
        have hc18b := hc18
        try simp only [decide_eq_true_eq, decide_eq_false_iff_not, Bool.not_eq_true', Bool.not_eq_false', Bool.and_eq_true, Bool.or_eq_true, Int.not_lt, Int.not_le, ne_eq, Decidable.not_not] at hc18
        refine wp_skip ?_
        refine hK16 _ _ ?_
        refine wp_seq_k (fun K21 hK21 => ?_)
        refine wp_region_lit ?_
        refine l_q rfl rfl (q_moveS rfl) ?_
        refine l_q rfl rfl (q_ixG (e := 5) (m := 1) (j := 1) rfl rfl (by kernel_rfl) (by kernel_rfl) (by first | rfl | omega) (by omega) hG (by rw [bv_len]; first | omega | (simp only [List.length_append, List.length_map, List.length_cons, List.length_nil, List.length_take, List.length_drop, List.length_set] <;> omega))) ?_
        obtain ⟨x22, hx22⟩ : ∃ x, (b)[1]? = some x := ⟨_, List.getElem?_eq_getElem (by first | omega | (simp only [List.length_append, List.length_map, List.length_cons, List.length_nil, List.length_take, List.length_drop, List.length_set] <;> omega) | (simp <;> omega))⟩
        have hb22 : x22 < 256 := hb x22 (List.mem_of_getElem? hx22)
        refine l_q rfl rfl (q_load1 rfl (by kernel_rfl) (SlG.cell (hG.mono hS6.base) (Gle.refl _) (at1 (bv_at hx22)))) ?_
        refine l_q rfl rfl (q_convN (a := x22) rfl (by kernel_rfl) (by kernel_rfl) (wrap_fit_i64 (by omega))) ?_
        refine l_q rfl rfl (q_fieldAddr (ft := 2) (o := 1) rfl (by kernel_rfl)) ?_
        refine l_e rfl (fun K hK => ?_)
        refine e_store1 hS6 rfl rfl (by kernel_rfl) (by first | rfl | assumption) (i := 0) rfl rfl (fun w23 (hS23 : St _ _ [.blk b5 (.cells #[.int .i64 ((x4 : Nat) : Int), .int .i64 ((x22 : Nat) : Int), .string (bs [])] 31), .blk b2 (.cells #[.int .i64 (0 : Int), .int .i64 (0 : Int), .string (bs [])] 31)] _) => ?_)
        clear hS6
        refine hK _ _ ?_; clear hK K
        refine l_nil ?_
        refine hK21 _ _ ?_
        refine wp_region_lit ?_
        refine l_q rfl rfl (q_assignI rfl) ?_
        refine l_nil ?_
        refine hK8 _ _ ?_
        refine wp_seq_k (fun K24 hK24 => ?_)
        refine wp_region_lit ?_
        refine l_q rfl rfl (q_loadA (m := 3) rfl (by kernel_rfl) (by kernel_rfl) (hS23.blk (i := 0) rfl) rfl rfl) ?_
        refine l_q rfl rfl (q_moveI rfl) ?_
        refine l_e rfl (fun K hK => ?_)
        refine e_storeA hS23 rfl rfl (by kernel_rfl) (by repeat' (first | exact trivial | refine ⟨by first | rfl | assumption | exact one_if (by assumption), ?_⟩)) (i := 1) rfl rfl (fun w25 (hS25 : St _ _ [.blk b5 (.cells #[.int .i64 ((x4 : Nat) : Int), .int .i64 ((x22 : Nat) : Int), .string (bs [])] 31), .blk b2 (.cells #[.int .i64 ((x4 : Nat) : Int), .int .i64 ((x22 : Nat) : Int), .string (bs [])] 31)] _) => ?_)
        clear hS23
        refine hK _ _ ?_; clear hK K
        refine l_q rfl rfl (q_assignI rfl) ?_
        refine l_nil ?_
        refine hK24 _ _ ?_
        refine wp_ret ?_
        refine c_retCT (m := 3) rfl (by kernel_rfl) (by kernel_rfl) rfl (hS25.blk (i := 1) rfl) rfl rfl ?_
        exact ⟨_, rfl, RTakeP.mk (a := (((x4 : Nat) : Int), ((x22 : Nat) : Int), [])) (n := 2) (vok_mk Bytes.nil ⟨by omega, by omega⟩ ⟨by omega, by omega⟩) (by omega) (rt1 hx4 (by omega) hx22), hS25.drop⟩
    ·
      have hc15b := hc15
      try simp only [decide_eq_true_eq, decide_eq_false_iff_not, Bool.not_eq_true', Bool.not_eq_false', Bool.and_eq_true, Bool.or_eq_true, Int.not_lt, Int.not_le, ne_eq, Decidable.not_not] at hc15
      refine wp_seq_k (fun K26 hK26 => ?_)
      refine wp_seq_k (fun K27 hK27 => ?_)
      refine wp_region_lit ?_
      refine l_q rfl rfl (q_eql rfl rfl) ?_
      refine l_q rfl rfl (q_assignB rfl) ?_
      refine l_nil ?_
      refine hK27 _ _ ?_
      refine c_cond rfl (fun hc28 => ?_) (fun hc28 => ?_)
      ·
        have hc28b := hc28
        try simp only [decide_eq_true_eq, decide_eq_false_iff_not, Bool.not_eq_true', Bool.not_eq_false', Bool.and_eq_true, Bool.or_eq_true, Int.not_lt, Int.not_le, ne_eq, Decidable.not_not] at hc28
        refine wp_skip ?_
        refine hK26 _ _ ?_
        refine c_condT rfl hc28b ?_
        refine wp_seq_k (fun K30 hK30 => ?_)
        refine wp_seq_k (fun K31 hK31 => ?_)
        refine wp_region_lit ?_
        refine l_q rfl rfl (q_moveS rfl) ?_
        refine l_q rfl rfl (q_lenSl (e := 5) rfl (by kernel_rfl)) ?_
        refine l_q rfl rfl (q_lss rfl rfl) ?_
        refine l_nil ?_
        refine hK31 _ _ ?_
        refine c_cond rfl (fun hc32 => ?_) (fun hc32 => ?_)
        ·
          have hc32b := hc32
          try simp only [decide_eq_true_eq, decide_eq_false_iff_not, Bool.not_eq_true', Bool.not_eq_false', Bool.and_eq_true, Bool.or_eq_true, Int.not_lt, Int.not_le, ne_eq, Decidable.not_not] at hc32
          refine wp_seq_k (fun K33 hK33 => ?_)
          refine wp_region_lit ?_
          refine l_q rfl rfl (q_loadA (m := 3) rfl (by kernel_rfl) (by kernel_rfl) (hS6.blk (i := 0) rfl) rfl rfl) ?_
          refine l_e rfl (fun K hK => ?_)
          refine e_storeA hS6 rfl rfl (by kernel_rfl) (by repeat' (first | exact trivial | refine ⟨by first | rfl | assumption | exact one_if (by assumption), ?_⟩)) (i := 1) rfl rfl (fun w34 (hS34 : St _ _ [.blk b5 (.cells #[.int .i64 ((x4 : Nat) : Int), .int .i64 (0 : Int), .string (bs [])] 31), .blk b2 (.cells #[.int .i64 ((x4 : Nat) : Int), .int .i64 (0 : Int), .string (bs [])] 31)] _) => ?_)
          clear hS6
          refine hK _ _ ?_; clear hK K
          refine l_q rfl rfl (q_assignI rfl) ?_
          refine l_nil ?_
          refine hK33 _ _ ?_
          refine wp_ret ?_
          refine c_retCT (m := 3) rfl (by kernel_rfl) (by kernel_rfl) rfl (hS34.blk (i := 1) rfl) rfl rfl ?_
          exact ⟨_, rfl, RTakeP.mk (a := (((x4 : Nat) : Int), (0 : Int), [])) (n := 0) (vok_mk Bytes.nil ⟨by omega, by omega⟩ ⟨by omega, by omega⟩) (by omega) (rt_no ((tk2n (r := []) (a := ((0 : Int), (0 : Int), [])) hx4 (by omega) (by omega)).2 rfl)), hS34.drop⟩
        ·
          have hc32b := hc32
          try simp only [decide_eq_true_eq, decide_eq_false_iff_not, Bool.not_eq_true', Bool.not_eq_false', Bool.and_eq_true, Bool.or_eq_true, Int.not_lt, Int.not_le, ne_eq, Decidable.not_not] at hc32
          refine wp_skip ?_
          refine hK30 _ _ ?_
          refine wp_seq_k (fun K35 hK35 => ?_)
          refine wp_region_lit ?_
          refine l_q rfl rfl (q_assignI rfl) ?_
          refine l_nil ?_
          refine hK35 _ _ ?_
          refine wp_seq_k (fun K36 hK36 => ?_)
          refine wp_seq_k (fun K37 hK37 => ?_)
          refine wp_region_lit ?_
          refine l_q rfl rfl (q_assignI rfl) ?_
          refine l_nil ?_
          refine hK37 _ _ ?_
          refine wp_block ?_
          refine c_loop (τ := Nat) [(6, 7), (38, 49)] (fun x => (fun (j : Nat) => [(6, .int .u64 (((f8 ((b.drop 1).take j)) : Nat) : Int)), (7, .int .i64 (((j + 1) : Nat) : Int))]) x) (fun x w' => (fun (j : Nat) => St w (fun _ => False) [.blk b5 (.cells #[.int .i64 ((x4 : Nat) : Int), .int .i64 (0 : Int), .string (bs [])] 31), .blk b2 (.cells #[.int .i64 (0 : Int), .int .i64 (0 : Int), .string (bs [])] 31)] w' ∧ j ≤ 8) x) (fun x => (fun (j : Nat) => 8 - j) x) (0) ?_ (by refine ⟨by show _ = Value.int .u64 ((f8 [] : Nat) : Int); unfold f8; rfl, ⟨rfl, trivial⟩⟩) (fun j j38 w38 hJ38 K38 hK38 => ?_)
          ·
            exact ⟨hS6, Nat.zero_le _⟩
          ·
            obtain ⟨hS38, hj⟩ := hJ38
            try dsimp only at hS38 hj ⊢
            have hf8 := f8_lt 8 ((b.drop 1).take j) hb.drop.take (by rw [List.length_take]; omega)
            have h2568 : (256 : Nat) ^ 8 = 18446744073709551616 := by decide
            refine wp_seq_k (fun K39 hK39 => ?_)
            refine wp_seq_k (fun K40 hK40 => ?_)
            refine wp_region_lit ?_
            refine l_q rfl rfl (q_moveI rfl) ?_
            refine l_q rfl rfl (q_lss rfl rfl) ?_
            refine l_nil ?_
            refine hK40 _ _ ?_
            refine c_cond rfl (fun hc41 => ?_) (fun hc41 => ?_)
            ·
              have hc41b := hc41
              try simp only [decide_eq_true_eq, decide_eq_false_iff_not, Bool.not_eq_true', Bool.not_eq_false', Bool.and_eq_true, Bool.or_eq_true, Int.not_lt, Int.not_le, ne_eq, Decidable.not_not] at hc41
              refine wp_skip ?_
              refine hK39 _ _ ?_
              refine wp_seq_k (fun K42 hK42 => ?_)
              refine wp_block ?_
              refine wp_region_lit ?_
              refine l_q rfl rfl (q_moveI rfl) ?_
              refine l_q rfl rfl (u_mul (a := 256) (b := (f8 ((b.drop 1).take j))) (M := 18446744073709551616) rfl rfl rfl (by decide)) ?_
              refine l_q rfl rfl (q_moveS rfl) ?_
              refine l_q rfl rfl (q_moveI rfl) ?_
              refine l_q rfl rfl (q_ixG (e := 5) (m := 1) (j := (j + 1)) rfl rfl (by kernel_rfl) (by kernel_rfl) (by first | rfl | omega) (by omega) hG (by rw [bv_len]; first | omega | (simp only [List.length_append, List.length_map, List.length_cons, List.length_nil, List.length_take, List.length_drop, List.length_set] <;> omega))) ?_
              obtain ⟨x43, hx43⟩ : ∃ x, (b)[(j + 1)]? = some x := ⟨_, List.getElem?_eq_getElem (by first | omega | (simp only [List.length_append, List.length_map, List.length_cons, List.length_nil, List.length_take, List.length_drop, List.length_set] <;> omega) | (simp <;> omega))⟩
              have hb43 : x43 < 256 := hb x43 (List.mem_of_getElem? hx43)
              refine l_q rfl rfl (q_load1 rfl (by kernel_rfl) (SlG.cell (hG.mono hS38.base) (Gle.refl _) (at1 (bv_at hx43)))) ?_
              refine l_q rfl rfl (q_convN (a := x43) rfl (by kernel_rfl) (by kernel_rfl) (wrap_fit_u64 (by omega))) ?_
              refine l_q rfl rfl (u_add (a := (256 * (f8 ((b.drop 1).take j)) % 18446744073709551616)) (b := x43) (M := 18446744073709551616) rfl rfl rfl (by decide)) ?_
              refine l_q rfl rfl (q_assignI rfl) ?_
              refine l_nil ?_
              refine hK42 _ _ ?_
              refine wp_region_lit ?_
              refine l_q rfl rfl (q_moveI rfl) ?_
              refine l_q rfl rfl (q_addx rfl rfl (by first | decide | omega) (by first | decide | omega)) ?_
              refine l_q rfl rfl (q_assignI rfl) ?_
              refine l_nil ?_
              refine hK38 _ _ (came ((j + 1)) (by repeat' (first | exact Agree.refl _ _ | refine Agree.up ?_ rfl | refine Agree.hav2 ?_ rfl | refine Agree.ups2 ?_ rfl)) (by repeat' (first | exact trivial | refine ⟨by first | exact congrArg (fun n : Nat => Value.int .u64 (n : Int)) (f8_stepB hb hx43 (by omega)) | exact int_succ _ | rfl, ?_⟩)) ?_)
              exact ⟨⟨hS38, (by show j + 1 ≤ 8; omega)⟩, by (show 8 - (j + 1) < 8 - j); omega⟩
            ·
              have hc41b := hc41
              try simp only [decide_eq_true_eq, decide_eq_false_iff_not, Bool.not_eq_true', Bool.not_eq_false', Bool.and_eq_true, Bool.or_eq_true, Int.not_lt, Int.not_le, ne_eq, Decidable.not_not] at hc41
              refine wp_exit ?_
              refine hK36 _ _ ?_
              refine wp_seq_k (fun K44 hK44 => ?_)
              refine wp_region_lit ?_
              refine l_q rfl rfl (q_moveI rfl) ?_
              refine l_q rfl rfl (q_xorN (a := (f8 ((b.drop 1).take j))) (b := 9223372036854775808) 64 rfl rfl (by omega) (by omega) (.inl ⟨rfl, rfl⟩)) ?_
              refine l_q rfl rfl (q_conv (k' := .i64) rfl (by kernel_rfl) rfl) ?_
              refine l_q rfl rfl (q_fieldAddr (ft := 2) (o := 1) rfl (by kernel_rfl)) ?_
              refine l_e rfl (fun K hK => ?_)
              refine e_store1 hS38 rfl rfl (by kernel_rfl) (by first | rfl | assumption) (i := 0) rfl rfl (fun w45 (hS45 : St _ _ [.blk b5 (.cells #[.int .i64 ((x4 : Nat) : Int), .int .i64 (IntKind.i64.wrap ((((f8 ((b.drop 1).take j)) ^^^ 9223372036854775808) : Nat) : Int)), .string (bs [])] 31), .blk b2 (.cells #[.int .i64 (0 : Int), .int .i64 (0 : Int), .string (bs [])] 31)] _) => ?_)
              clear hS38
              refine hK _ _ ?_; clear hK K
              refine l_nil ?_
              refine hK44 _ _ ?_
              refine wp_region_lit ?_
              refine l_q rfl rfl (q_assignI rfl) ?_
              refine l_nil ?_
              refine hK8 _ _ ?_
              refine wp_seq_k (fun K46 hK46 => ?_)
              refine wp_region_lit ?_
              refine l_q rfl rfl (q_loadA (m := 3) rfl (by kernel_rfl) (by kernel_rfl) (hS45.blk (i := 0) rfl) rfl rfl) ?_
              refine l_q rfl rfl (q_moveI rfl) ?_
              refine l_e rfl (fun K hK => ?_)
              refine e_storeA hS45 rfl rfl (by kernel_rfl) (by repeat' (first | exact trivial | refine ⟨by first | rfl | assumption | exact one_if (by assumption), ?_⟩)) (i := 1) rfl rfl (fun w47 (hS47 : St _ _ [.blk b5 (.cells #[.int .i64 ((x4 : Nat) : Int), .int .i64 (IntKind.i64.wrap ((((f8 ((b.drop 1).take j)) ^^^ 9223372036854775808) : Nat) : Int)), .string (bs [])] 31), .blk b2 (.cells #[.int .i64 ((x4 : Nat) : Int), .int .i64 (IntKind.i64.wrap ((((f8 ((b.drop 1).take j)) ^^^ 9223372036854775808) : Nat) : Int)), .string (bs [])] 31)] _) => ?_)
              clear hS45
              refine hK _ _ ?_; clear hK K
              refine l_q rfl rfl (q_assignI rfl) ?_
              refine l_nil ?_
              refine hK46 _ _ ?_
              refine wp_ret ?_
              refine c_retCT (m := 3) rfl (by kernel_rfl) (by kernel_rfl) rfl (hS47.blk (i := 1) rfl) rfl rfl ?_
              have hj8 : j = 8 := by omega
              subst hj8
              exact ⟨_, rfl, RTakeP.mk (a := (((x4 : Nat) : Int), (IntKind.i64.wrap ((((f8 ((b.drop 1).take 8)) ^^^ 9223372036854775808) : Nat) : Int)), [])) (n := 9) (vok_mk Bytes.nil ⟨by omega, by omega⟩ (i64_in2 _)) (by omega) (rt2 hx4 (by omega) hb (by omega) rfl), hS47.drop⟩
      ·
        have hc28b := hc28
        try simp only [decide_eq_true_eq, decide_eq_false_iff_not, Bool.not_eq_true', Bool.not_eq_false', Bool.and_eq_true, Bool.or_eq_true, Int.not_lt, Int.not_le, ne_eq, Decidable.not_not] at hc28
        refine wp_region_lit ?_
        refine l_q rfl rfl (q_eql rfl rfl) ?_
        refine l_q rfl rfl (q_assignB rfl) ?_
        refine l_nil ?_
        refine hK26 _ _ ?_
        refine c_cond rfl (fun hc48 => ?_) (fun hc48 => ?_)
        ·
          have hc48b := hc48
          try simp only [decide_eq_true_eq, decide_eq_false_iff_not, Bool.not_eq_true', Bool.not_eq_false', Bool.and_eq_true, Bool.or_eq_true, Int.not_lt, Int.not_le, ne_eq, Decidable.not_not] at hc48
          refine wp_seq_k (fun K49 hK49 => ?_)
          refine wp_seq_k (fun K50 hK50 => ?_)
          refine wp_region_lit ?_
          refine l_q rfl rfl (q_moveS rfl) ?_
          refine l_q rfl rfl (q_lenSl (e := 5) rfl (by kernel_rfl)) ?_
          refine l_q rfl rfl (q_lss rfl rfl) ?_
          refine l_nil ?_
          refine hK50 _ _ ?_
          refine c_cond rfl (fun hc51 => ?_) (fun hc51 => ?_)
          ·
            have hc51b := hc51
            try simp only [decide_eq_true_eq, decide_eq_false_iff_not, Bool.not_eq_true', Bool.not_eq_false', Bool.and_eq_true, Bool.or_eq_true, Int.not_lt, Int.not_le, ne_eq, Decidable.not_not] at hc51
            refine wp_seq_k (fun K52 hK52 => ?_)
            refine wp_region_lit ?_
            refine l_q rfl rfl (q_loadA (m := 3) rfl (by kernel_rfl) (by kernel_rfl) (hS6.blk (i := 0) rfl) rfl rfl) ?_
            refine l_e rfl (fun K hK => ?_)
            refine e_storeA hS6 rfl rfl (by kernel_rfl) (by repeat' (first | exact trivial | refine ⟨by first | rfl | assumption | exact one_if (by assumption), ?_⟩)) (i := 1) rfl rfl (fun w53 (hS53 : St _ _ [.blk b5 (.cells #[.int .i64 ((x4 : Nat) : Int), .int .i64 (0 : Int), .string (bs [])] 31), .blk b2 (.cells #[.int .i64 ((x4 : Nat) : Int), .int .i64 (0 : Int), .string (bs [])] 31)] _) => ?_)
            clear hS6
            refine hK _ _ ?_; clear hK K
            refine l_q rfl rfl (q_assignI rfl) ?_
            refine l_nil ?_
            refine hK52 _ _ ?_
            refine wp_ret ?_
            refine c_retCT (m := 3) rfl (by kernel_rfl) (by kernel_rfl) rfl (hS53.blk (i := 1) rfl) rfl rfl ?_
            exact ⟨_, rfl, RTakeP.mk (a := (((x4 : Nat) : Int), (0 : Int), [])) (n := 0) (vok_mk Bytes.nil ⟨by omega, by omega⟩ ⟨by omega, by omega⟩) (by omega) (rt_no ((tk2n (r := []) (a := ((0 : Int), (0 : Int), [])) hx4 (by omega) (by omega)).2 rfl)), hS53.drop⟩
          ·
            have hc51b := hc51
            try simp only [decide_eq_true_eq, decide_eq_false_iff_not, Bool.not_eq_true', Bool.not_eq_false', Bool.and_eq_true, Bool.or_eq_true, Int.not_lt, Int.not_le, ne_eq, Decidable.not_not] at hc51
            refine wp_skip ?_
            refine hK49 _ _ ?_
            refine wp_seq_k (fun K54 hK54 => ?_)
            refine wp_region_lit ?_
            refine l_q rfl rfl (q_assignI rfl) ?_
            refine l_nil ?_
            refine hK54 _ _ ?_
            refine wp_seq_k (fun K55 hK55 => ?_)
            refine wp_seq_k (fun K56 hK56 => ?_)
            refine wp_region_lit ?_
            refine l_q rfl rfl (q_assignI rfl) ?_
            refine l_nil ?_
            refine hK56 _ _ ?_
            refine wp_block ?_
            refine c_loop (τ := Nat) [(6, 7), (38, 49)] (fun x => (fun (j : Nat) => [(6, .int .u64 (((f8 ((b.drop 1).take j)) : Nat) : Int)), (7, .int .i64 (((j + 1) : Nat) : Int))]) x) (fun x w' => (fun (j : Nat) => St w (fun _ => False) [.blk b5 (.cells #[.int .i64 ((x4 : Nat) : Int), .int .i64 (0 : Int), .string (bs [])] 31), .blk b2 (.cells #[.int .i64 (0 : Int), .int .i64 (0 : Int), .string (bs [])] 31)] w' ∧ j ≤ 8) x) (fun x => (fun (j : Nat) => 8 - j) x) (0) ?_ (by refine ⟨by show _ = Value.int .u64 ((f8 [] : Nat) : Int); unfold f8; rfl, ⟨rfl, trivial⟩⟩) (fun j j57 w57 hJ57 K57 hK57 => ?_)
            ·
              exact ⟨hS6, Nat.zero_le _⟩
            ·
              obtain ⟨hS57, hj⟩ := hJ57
              try dsimp only at hS57 hj ⊢
              have hf8 := f8_lt 8 ((b.drop 1).take j) hb.drop.take (by rw [List.length_take]; omega)
              have h2568 : (256 : Nat) ^ 8 = 18446744073709551616 := by decide
              refine wp_seq_k (fun K58 hK58 => ?_)
              refine wp_seq_k (fun K59 hK59 => ?_)
              refine wp_region_lit ?_
              refine l_q rfl rfl (q_moveI rfl) ?_
              refine l_q rfl rfl (q_lss rfl rfl) ?_
              refine l_nil ?_
              refine hK59 _ _ ?_
              refine c_cond rfl (fun hc60 => ?_) (fun hc60 => ?_)
              ·
                have hc60b := hc60
                try simp only [decide_eq_true_eq, decide_eq_false_iff_not, Bool.not_eq_true', Bool.not_eq_false', Bool.and_eq_true, Bool.or_eq_true, Int.not_lt, Int.not_le, ne_eq, Decidable.not_not] at hc60
                refine wp_skip ?_
                refine hK58 _ _ ?_
                refine wp_seq_k (fun K61 hK61 => ?_)
                refine wp_block ?_
                refine wp_region_lit ?_
                refine l_q rfl rfl (q_moveI rfl) ?_
                refine l_q rfl rfl (u_mul (a := 256) (b := (f8 ((b.drop 1).take j))) (M := 18446744073709551616) rfl rfl rfl (by decide)) ?_
                refine l_q rfl rfl (q_moveS rfl) ?_
                refine l_q rfl rfl (q_moveI rfl) ?_
                refine l_q rfl rfl (q_ixG (e := 5) (m := 1) (j := (j + 1)) rfl rfl (by kernel_rfl) (by kernel_rfl) (by first | rfl | omega) (by omega) hG (by rw [bv_len]; first | omega | (simp only [List.length_append, List.length_map, List.length_cons, List.length_nil, List.length_take, List.length_drop, List.length_set] <;> omega))) ?_
                obtain ⟨x62, hx62⟩ : ∃ x, (b)[(j + 1)]? = some x := ⟨_, List.getElem?_eq_getElem (by first | omega | (simp only [List.length_append, List.length_map, List.length_cons, List.length_nil, List.length_take, List.length_drop, List.length_set] <;> omega) | (simp <;> omega))⟩
                have hb62 : x62 < 256 := hb x62 (List.mem_of_getElem? hx62)
                refine l_q rfl rfl (q_load1 rfl (by kernel_rfl) (SlG.cell (hG.mono hS57.base) (Gle.refl _) (at1 (bv_at hx62)))) ?_
                refine l_q rfl rfl (q_convN (a := x62) rfl (by kernel_rfl) (by kernel_rfl) (wrap_fit_u64 (by omega))) ?_
                refine l_q rfl rfl (u_add (a := (256 * (f8 ((b.drop 1).take j)) % 18446744073709551616)) (b := x62) (M := 18446744073709551616) rfl rfl rfl (by decide)) ?_
                refine l_q rfl rfl (q_assignI rfl) ?_
                refine l_nil ?_
                refine hK61 _ _ ?_
                refine wp_region_lit ?_
                refine l_q rfl rfl (q_moveI rfl) ?_
                refine l_q rfl rfl (q_addx rfl rfl (by first | decide | omega) (by first | decide | omega)) ?_
                refine l_q rfl rfl (q_assignI rfl) ?_
                refine l_nil ?_
                refine hK57 _ _ (came ((j + 1)) (by repeat' (first | exact Agree.refl _ _ | refine Agree.up ?_ rfl | refine Agree.hav2 ?_ rfl | refine Agree.ups2 ?_ rfl)) (by repeat' (first | exact trivial | refine ⟨by first | exact congrArg (fun n : Nat => Value.int .u64 (n : Int)) (f8_stepB hb hx62 (by omega)) | exact int_succ _ | rfl, ?_⟩)) ?_)
                exact ⟨⟨hS57, (by show j + 1 ≤ 8; omega)⟩, by (show 8 - (j + 1) < 8 - j); omega⟩
              ·
                have hc60b := hc60
                try simp only [decide_eq_true_eq, decide_eq_false_iff_not, Bool.not_eq_true', Bool.not_eq_false', Bool.and_eq_true, Bool.or_eq_true, Int.not_lt, Int.not_le, ne_eq, Decidable.not_not] at hc60
                refine wp_exit ?_
                refine hK55 _ _ ?_
                refine wp_seq_k (fun K63 hK63 => ?_)
                refine wp_region_lit ?_
                refine l_q rfl rfl (q_moveI rfl) ?_
                refine l_q rfl rfl (q_xorN (a := (f8 ((b.drop 1).take j))) (b := 9223372036854775808) 64 rfl rfl (by omega) (by omega) (.inl ⟨rfl, rfl⟩)) ?_
                refine l_q rfl rfl (q_conv (k' := .i64) rfl (by kernel_rfl) rfl) ?_
                refine l_q rfl rfl (q_fieldAddr (ft := 2) (o := 1) rfl (by kernel_rfl)) ?_
                refine l_e rfl (fun K hK => ?_)
                refine e_store1 hS57 rfl rfl (by kernel_rfl) (by first | rfl | assumption) (i := 0) rfl rfl (fun w64 (hS64 : St _ _ [.blk b5 (.cells #[.int .i64 ((x4 : Nat) : Int), .int .i64 (IntKind.i64.wrap ((((f8 ((b.drop 1).take j)) ^^^ 9223372036854775808) : Nat) : Int)), .string (bs [])] 31), .blk b2 (.cells #[.int .i64 (0 : Int), .int .i64 (0 : Int), .string (bs [])] 31)] _) => ?_)
                clear hS57
                refine hK _ _ ?_; clear hK K
                refine l_nil ?_
                refine hK63 _ _ ?_
                refine wp_region_lit ?_
                refine l_q rfl rfl (q_assignI rfl) ?_
                refine l_nil ?_
                refine hK8 _ _ ?_
                refine wp_seq_k (fun K65 hK65 => ?_)
                refine wp_region_lit ?_
                refine l_q rfl rfl (q_loadA (m := 3) rfl (by kernel_rfl) (by kernel_rfl) (hS64.blk (i := 0) rfl) rfl rfl) ?_
                refine l_q rfl rfl (q_moveI rfl) ?_
                refine l_e rfl (fun K hK => ?_)
                refine e_storeA hS64 rfl rfl (by kernel_rfl) (by repeat' (first | exact trivial | refine ⟨by first | rfl | assumption | exact one_if (by assumption), ?_⟩)) (i := 1) rfl rfl (fun w66 (hS66 : St _ _ [.blk b5 (.cells #[.int .i64 ((x4 : Nat) : Int), .int .i64 (IntKind.i64.wrap ((((f8 ((b.drop 1).take j)) ^^^ 9223372036854775808) : Nat) : Int)), .string (bs [])] 31), .blk b2 (.cells #[.int .i64 ((x4 : Nat) : Int), .int .i64 (IntKind.i64.wrap ((((f8 ((b.drop 1).take j)) ^^^ 9223372036854775808) : Nat) : Int)), .string (bs [])] 31)] _) => ?_)
                clear hS64
                refine hK _ _ ?_; clear hK K
                refine l_q rfl rfl (q_assignI rfl) ?_
                refine l_nil ?_
                refine hK65 _ _ ?_
                refine wp_ret ?_
                refine c_retCT (m := 3) rfl (by kernel_rfl) (by kernel_rfl) rfl (hS66.blk (i := 1) rfl) rfl rfl ?_
                have hj8 : j = 8 := by omega
                subst hj8
                exact ⟨_, rfl, RTakeP.mk (a := (((x4 : Nat) : Int), (IntKind.i64.wrap ((((f8 ((b.drop 1).take 8)) ^^^ 9223372036854775808) : Nat) : Int)), [])) (n := 9) (vok_mk Bytes.nil ⟨by omega, by omega⟩ (i64_in2 _)) (by omega) (rt2 hx4 (by omega) hb (by omega) rfl), hS66.drop⟩
        ·
          have hc48b := hc48
          try simp only [decide_eq_true_eq, decide_eq_false_iff_not, Bool.not_eq_true', Bool.not_eq_false', Bool.and_eq_true, Bool.or_eq_true, Int.not_lt, Int.not_le, ne_eq, Decidable.not_not] at hc48
          refine wp_seq_k (fun K67 hK67 => ?_)
          refine wp_seq_k (fun K68 hK68 => ?_)
          refine wp_region_lit ?_
          refine l_q rfl rfl (q_eql rfl rfl) ?_
          refine l_q rfl rfl (q_assignB rfl) ?_
          refine l_nil ?_
          refine hK68 _ _ ?_
          refine c_cond rfl (fun hc69 => ?_) (fun hc69 => ?_)
          ·
            have hc69b := hc69
            try simp only [decide_eq_true_eq, decide_eq_false_iff_not, Bool.not_eq_true', Bool.not_eq_false', Bool.and_eq_true, Bool.or_eq_true, Int.not_lt, Int.not_le, ne_eq, Decidable.not_not] at hc69
            refine wp_skip ?_
            refine hK67 _ _ ?_
            refine c_condT rfl hc69b ?_
            refine wp_seq_k (fun K71 hK71 => ?_)
            refine wp_region_lit ?_
            refine l_q rfl rfl (q_assign rfl) ?_
            refine l_nil ?_
            refine hK71 _ _ ?_
            refine wp_seq_k (fun K72 hK72 => ?_)
            refine wp_seq_k (fun K73 hK73 => ?_)
            refine wp_region_lit ?_
            refine l_q rfl rfl (q_assignI rfl) ?_
            refine l_nil ?_
            refine hK73 _ _ ?_
            refine wp_block ?_
            refine c_loop (τ := (List Nat) × Nat) [(3, 3), (8, 9), (57, 102)] (fun x => (fun (s : List Nat) (i : Nat) => [(8, .string (bs s)), (9, .int .i64 ((i : Nat) : Int))]) x.1 x.2) (fun x w' => (fun (s : List Nat) (i : Nat) => St w (fun _ => False) [.blk b5 (.cells #[.int .i64 ((x4 : Nat) : Int), .int .i64 (0 : Int), .string (bs [])] 31), .blk b2 (.cells #[.int .i64 (0 : Int), .int .i64 (0 : Int), .string (bs [])] 31)] w' ∧ 1 ≤ i ∧ i ≤ b.length + 1 ∧ s.length ≤ i ∧ Bytes s ∧ TI b s i) x.1 x.2) (fun x => (fun (s : List Nat) (i : Nat) => b.length + 1 - i) x.1 x.2) (⟨[], 1⟩) ?_ (by refine ⟨rfl, ⟨rfl, trivial⟩⟩) (fun x74 j74 w74 hJ74 K74 hK74 => ?_)
            ·
              exact ⟨hS6, Nat.le_refl _, by omega, Nat.zero_le _, Bytes.nil, TI.zero b⟩
            ·
              obtain ⟨s, i⟩ := x74
              obtain ⟨hS74, hi1, hi2, hsl, hs, hti⟩ := hJ74
              try dsimp only at hS74 hi1 hi2 hsl hs hti ⊢
              refine wp_seq_k (fun K75 hK75 => ?_)
              refine wp_seq_k (fun K76 hK76 => ?_)
              refine wp_region_lit ?_
              refine l_q rfl rfl (q_moveI rfl) ?_
              refine l_q rfl rfl (q_moveS rfl) ?_
              refine l_q rfl rfl (q_lenSl (e := 5) rfl (by kernel_rfl)) ?_
              refine l_q rfl rfl (q_lss rfl rfl) ?_
              refine l_nil ?_
              refine hK76 _ _ ?_
              refine c_cond rfl (fun hc77 => ?_) (fun hc77 => ?_)
              ·
                have hc77b := hc77
                try simp only [decide_eq_true_eq, decide_eq_false_iff_not, Bool.not_eq_true', Bool.not_eq_false', Bool.and_eq_true, Bool.or_eq_true, Int.not_lt, Int.not_le, ne_eq, Decidable.not_not] at hc77
                refine wp_skip ?_
                refine hK75 _ _ ?_
                refine wp_seq_k (fun K78 hK78 => ?_)
                refine wp_block ?_
                refine wp_seq_k (fun K79 hK79 => ?_)
                refine wp_seq_k (fun K80 hK80 => ?_)
                refine wp_region_lit ?_
                refine l_q rfl rfl (q_moveS rfl) ?_
                refine l_q rfl rfl (q_moveI rfl) ?_
                refine l_q rfl rfl (q_ixG (e := 5) (m := 1) (j := i) rfl rfl (by kernel_rfl) (by kernel_rfl) (by first | rfl | omega) (by omega) hG (by rw [bv_len]; first | omega | (simp only [List.length_append, List.length_map, List.length_cons, List.length_nil, List.length_take, List.length_drop, List.length_set] <;> omega))) ?_
                obtain ⟨x81, hx81⟩ : ∃ x, (b)[i]? = some x := ⟨_, List.getElem?_eq_getElem (by first | omega | (simp only [List.length_append, List.length_map, List.length_cons, List.length_nil, List.length_take, List.length_drop, List.length_set] <;> omega) | (simp <;> omega))⟩
                have hb81 : x81 < 256 := hb x81 (List.mem_of_getElem? hx81)
                refine l_q rfl rfl (q_load1 rfl (by kernel_rfl) (SlG.cell (hG.mono hS74.base) (Gle.refl _) (at1 (bv_at hx81)))) ?_
                refine l_q rfl rfl (q_eql rfl rfl) ?_
                refine l_q rfl rfl (q_moveB rfl) ?_
                refine g_splitL (t := 68) rfl (fun hg82 => ?_) (fun hg82 => ?_)
                ·
                  have hg82b := hg82
                  try simp only [decide_eq_true_eq, decide_eq_false_iff_not, Bool.not_eq_true', Bool.not_eq_false', Bool.and_eq_true, Bool.or_eq_true, Int.not_lt, Int.not_le, ne_eq, Decidable.not_not] at hg82
                  refine l_on rfl rfl hg82b ?_
                  refine l_q rfl rfl (q_moveI rfl) ?_
                  refine l_on rfl rfl hg82b ?_
                  refine l_q rfl rfl (q_addx rfl rfl (by first | decide | omega) (by first | decide | omega)) ?_
                  refine l_on rfl rfl hg82b ?_
                  refine l_q rfl rfl (q_moveS rfl) ?_
                  refine l_on rfl rfl hg82b ?_
                  refine l_q rfl rfl (q_lenSl (e := 5) rfl (by kernel_rfl)) ?_
                  refine l_on rfl rfl hg82b ?_
                  refine l_q rfl rfl (q_lss rfl rfl) ?_
                  refine l_q rfl rfl (q_pickT rfl hg82b rfl) ?_
                  refine l_q rfl rfl (q_moveB rfl) ?_
                  refine g_splitL (t := 75) rfl (fun hg83 => ?_) (fun hg83 => ?_)
                  ·
                    have hg83b := hg83
                    try simp only [decide_eq_true_eq, decide_eq_false_iff_not, Bool.not_eq_true', Bool.not_eq_false', Bool.and_eq_true, Bool.or_eq_true, Int.not_lt, Int.not_le, ne_eq, Decidable.not_not] at hg83
                    refine l_on rfl rfl hg83b ?_
                    refine l_q rfl rfl (q_moveS rfl) ?_
                    refine l_on rfl rfl hg83b ?_
                    refine l_q rfl rfl (q_moveI rfl) ?_
                    refine l_on rfl rfl hg83b ?_
                    refine l_q rfl rfl (q_addx rfl rfl (by first | decide | omega) (by first | decide | omega)) ?_
                    refine l_on rfl rfl hg83b ?_
                    refine l_q rfl rfl (q_ixG (e := 5) (m := 1) (j := (i + 1)) rfl rfl (by kernel_rfl) (by kernel_rfl) (by first | rfl | omega) (by omega) hG (by rw [bv_len]; first | omega | (simp only [List.length_append, List.length_map, List.length_cons, List.length_nil, List.length_take, List.length_drop, List.length_set] <;> omega))) ?_
                    refine l_on rfl rfl hg83b ?_
                    obtain ⟨x84, hx84⟩ : ∃ x, (b)[(i + 1)]? = some x := ⟨_, List.getElem?_eq_getElem (by first | omega | (simp only [List.length_append, List.length_map, List.length_cons, List.length_nil, List.length_take, List.length_drop, List.length_set] <;> omega) | (simp <;> omega))⟩
                    have hb84 : x84 < 256 := hb x84 (List.mem_of_getElem? hx84)
                    refine l_q rfl rfl (q_load1 rfl (by kernel_rfl) (SlG.cell (hG.mono hS74.base) (Gle.refl _) (at1 (bv_at hx84)))) ?_
                    refine l_on rfl rfl hg83b ?_
                    refine l_q rfl rfl (q_eql rfl rfl) ?_
                    refine l_q rfl rfl (q_pickT rfl hg83b rfl) ?_
                    refine l_nil ?_
                    refine hK80 _ _ ?_
                    refine c_cond rfl (fun hc85 => ?_) (fun hc85 => ?_)
                    ·
                      have hc85b := hc85
                      try simp only [decide_eq_true_eq, decide_eq_false_iff_not, Bool.not_eq_true', Bool.not_eq_false', Bool.and_eq_true, Bool.or_eq_true, Int.not_lt, Int.not_le, ne_eq, Decidable.not_not] at hc85
                      refine wp_seq_k (fun K86 hK86 => ?_)
                      refine wp_region_lit ?_
                      refine l_q rfl rfl (q_move rfl) ?_
                      refine l_q rfl rfl (q_fieldAddr (ft := 9) (o := 2) rfl (by kernel_rfl)) ?_
                      refine l_e rfl (fun K hK => ?_)
                      refine e_store1 hS74 rfl rfl (by kernel_rfl) (by first | rfl | assumption) (i := 0) rfl rfl (fun w87 (hS87 : St _ _ [.blk b5 (.cells #[.int .i64 ((x4 : Nat) : Int), .int .i64 (0 : Int), .string (bs s)] 31), .blk b2 (.cells #[.int .i64 (0 : Int), .int .i64 (0 : Int), .string (bs [])] 31)] _) => ?_)
                      clear hS74
                      refine hK _ _ ?_; clear hK K
                      refine l_nil ?_
                      refine hK86 _ _ ?_
                      refine wp_seq_k (fun K88 hK88 => ?_)
                      refine wp_region_lit ?_
                      refine l_q rfl rfl (q_loadA (m := 3) rfl (by kernel_rfl) (by kernel_rfl) (hS87.blk (i := 0) rfl) rfl rfl) ?_
                      refine l_q rfl rfl (q_moveI rfl) ?_
                      refine l_q rfl rfl (q_addx rfl rfl (by first | decide | omega) (by first | decide | omega)) ?_
                      refine l_e rfl (fun K hK => ?_)
                      refine e_storeA hS87 rfl rfl (by kernel_rfl) (by repeat' (first | exact trivial | refine ⟨by first | rfl | assumption | exact one_if (by assumption), ?_⟩)) (i := 1) rfl rfl (fun w89 (hS89 : St _ _ [.blk b5 (.cells #[.int .i64 ((x4 : Nat) : Int), .int .i64 (0 : Int), .string (bs s)] 31), .blk b2 (.cells #[.int .i64 ((x4 : Nat) : Int), .int .i64 (0 : Int), .string (bs s)] 31)] _) => ?_)
                      clear hS87
                      refine hK _ _ ?_; clear hK K
                      refine l_q rfl rfl (q_assignI rfl) ?_
                      refine l_nil ?_
                      refine hK88 _ _ ?_
                      refine wp_ret ?_
                      refine c_retCT (m := 3) rfl (by kernel_rfl) (by kernel_rfl) rfl (hS89.blk (i := 1) rfl) rfl rfl ?_
                      exact ⟨_, rfl, RTakeP.mk (a := (((x4 : Nat) : Int), (0 : Int), s)) (n := (i + 2)) (vok_mk hs ⟨by omega, by omega⟩ ⟨by omega, by omega⟩) (by omega) (rt4 hti hx4 (by omega) hx81 hx84 (by omega) (by omega)), hS89.drop⟩
                    ·
                      have hc85b := hc85
                      try simp only [decide_eq_true_eq, decide_eq_false_iff_not, Bool.not_eq_true', Bool.not_eq_false', Bool.and_eq_true, Bool.or_eq_true, Int.not_lt, Int.not_le, ne_eq, Decidable.not_not] at hc85
                      refine wp_skip ?_
                      refine hK79 _ _ ?_
                      refine wp_seq_k (fun K90 hK90 => ?_)
                      refine wp_region_lit ?_
                      refine l_q rfl rfl (q_move rfl) ?_
                      refine l_q rfl rfl (q_moveS rfl) ?_
                      refine l_q rfl rfl (q_moveI rfl) ?_
                      refine l_q rfl rfl (q_ixG (e := 5) (m := 1) (j := i) rfl rfl (by kernel_rfl) (by kernel_rfl) (by first | rfl | omega) (by omega) hG (by rw [bv_len]; first | omega | (simp only [List.length_append, List.length_map, List.length_cons, List.length_nil, List.length_take, List.length_drop, List.length_set] <;> omega))) ?_
                      refine l_q rfl rfl (q_load1 rfl (by kernel_rfl) (SlG.cell (hG.mono hS74.base) (Gle.refl _) (at1 (bv_at hx81)))) ?_
                      refine l_e rfl (fun K hK => ?_)
                      refine e_buildSlice1 (e := 5) (zv := .int .u8 0) (xs := [.tmp 92]) hS74 (by kernel_rfl) (by kernel_rfl) (by kernel_rfl) rfl rfl rfl rfl (allone (by repeat' (first | exact trivial | refine ⟨by first | rfl | assumption, ?_⟩))) rfl (fun b91 w91 (hS91 : St _ _ [.blk b91 (.cells #[.int .u8 ((x81 : Nat) : Int)] 5), .blk b5 (.cells #[.int .i64 ((x4 : Nat) : Int), .int .i64 (0 : Int), .string (bs [])] 31), .blk b2 (.cells #[.int .i64 (0 : Int), .int .i64 (0 : Int), .string (bs [])] 31)] _) => ?_)
                      clear hS74
                      have hS91o : St _ _ [.ow 5 1 (some ⟨b91, 0, none⟩) 1 1 (bv [x81]), .blk b5 (.cells #[.int .i64 ((x4 : Nat) : Int), .int .i64 (0 : Int), .string (bs [])] 31), .blk b2 (.cells #[.int .i64 (0 : Int), .int .i64 (0 : Int), .string (bs [])] 31)] _ := hS91.blkOw' (i := 0) (m := 1) (size := 1) (xs := bv [x81]) rfl rfl rfl (by decide); clear hS91
                      refine hK _ _ ?_; clear hK K
                      refine l_q rfl rfl (q_convBS (l := [x81]) rfl (hS91o.owG (i := 0) rfl) (by first | omega | (simp only [List.length_append, List.length_map, List.length_cons, List.length_nil, List.length_take, List.length_drop, List.length_set] <;> omega)) (by kernel_rfl) (by kernel_rfl)) ?_
                      refine l_q rfl rfl (q_str_add (l := s) (m := [x81]) rfl rfl (by first | omega | (simp only [List.length_append, List.length_map, List.length_cons, List.length_nil, List.length_take, List.length_drop, List.length_set] <;> omega))) ?_
                      refine l_q rfl rfl (q_assign rfl) ?_
                      refine l_nil ?_
                      refine hK90 _ _ ?_
                      refine wp_seq_k (fun K92 hK92 => ?_)
                      refine wp_region_lit ?_
                      refine l_q rfl rfl (q_moveS rfl) ?_
                      refine l_q rfl rfl (q_moveI rfl) ?_
                      refine l_q rfl rfl (q_ixG (e := 5) (m := 1) (j := i) rfl rfl (by kernel_rfl) (by kernel_rfl) (by first | rfl | omega) (by omega) hG (by rw [bv_len]; first | omega | (simp only [List.length_append, List.length_map, List.length_cons, List.length_nil, List.length_take, List.length_drop, List.length_set] <;> omega))) ?_
                      refine l_q rfl rfl (q_load1 rfl (by kernel_rfl) (SlG.cell (hG.mono hS91o.base) (Gle.refl _) (at1 (bv_at hx81)))) ?_
                      refine l_q rfl rfl (q_eql rfl rfl) ?_
                      refine l_nil ?_
                      refine hK92 _ _ ?_
                      refine c_cond rfl (fun hc93 => ?_) (fun hc93 => ?_)
                      ·
                        have hc93b := hc93
                        try simp only [decide_eq_true_eq, decide_eq_false_iff_not, Bool.not_eq_true', Bool.not_eq_false', Bool.and_eq_true, Bool.or_eq_true, Int.not_lt, Int.not_le, ne_eq, Decidable.not_not] at hc93
                        refine wp_region_lit ?_
                        refine l_q rfl rfl (q_moveI rfl) ?_
                        refine l_q rfl rfl (q_addx rfl rfl (by first | decide | omega) (by first | decide | omega)) ?_
                        refine l_q rfl rfl (q_assignI rfl) ?_
                        refine l_nil ?_
                        refine hK78 _ _ ?_
                        refine wp_region_lit ?_
                        refine l_q rfl rfl (q_moveI rfl) ?_
                        refine l_q rfl rfl (q_addx rfl rfl (by first | decide | omega) (by first | decide | omega)) ?_
                        refine l_q rfl rfl (q_assignI rfl) ?_
                        refine l_nil ?_
                        have hS94 := hS91o.fr2; clear hS91o
                        have hS95 := hS94.fr2; clear hS94
                        have hS96 : St _ _ [.blk b5 (.cells #[.int .i64 ((x4 : Nat) : Int), .int .i64 (0 : Int), .string (bs [])] 31), .blk b2 (.cells #[.int .i64 (0 : Int), .int .i64 (0 : Int), .string (bs [])] 31)] _ := hS95.only 2; clear hS95
                        refine hK74 _ _ (came (⟨(s ++ [x81]), (i + 1 + 1)⟩) (by repeat' (first | exact Agree.refl _ _ | refine Agree.up ?_ rfl | refine Agree.hav2 ?_ rfl | refine Agree.ups2 ?_ rfl)) (by repeat' (first | exact trivial | refine ⟨by first | exact int_succ _ | (exact congrArg (Value.int .i64) (by omega)) | rfl, ?_⟩)) ?_)
                        exact ⟨⟨hS96, (by show 1 ≤ (i + 1 + 1); omega), (by show (i + 1 + 1) ≤ b.length + 1; omega), (by show (s ++ [x81]).length ≤ (i + 1 + 1); rw [List.length_append, List.length_singleton]; omega), (hs.app (fun y hy => by rw [List.mem_singleton] at hy; subst hy; assumption)), (TI.step hti hx81 (by rintro ⟨h0, h1⟩; first | omega | (rw [List.getElem?_eq_none (by omega)] at h1; cases h1) | (rw [hx84] at h1; injection h1 with h1; omega))).1 (by omega)⟩, by (show b.length + 1 - (i + 1 + 1) < b.length + 1 - i); omega⟩
                      ·
                        have hc93b := hc93
                        try simp only [decide_eq_true_eq, decide_eq_false_iff_not, Bool.not_eq_true', Bool.not_eq_false', Bool.and_eq_true, Bool.or_eq_true, Int.not_lt, Int.not_le, ne_eq, Decidable.not_not] at hc93
                        refine wp_skip ?_
                        refine hK78 _ _ ?_
                        refine wp_region_lit ?_
                        refine l_q rfl rfl (q_moveI rfl) ?_
                        refine l_q rfl rfl (q_addx rfl rfl (by first | decide | omega) (by first | decide | omega)) ?_
                        refine l_q rfl rfl (q_assignI rfl) ?_
                        refine l_nil ?_
                        have hS97 := hS91o.fr2; clear hS91o
                        have hS98 := hS97.fr2; clear hS97
                        have hS99 : St _ _ [.blk b5 (.cells #[.int .i64 ((x4 : Nat) : Int), .int .i64 (0 : Int), .string (bs [])] 31), .blk b2 (.cells #[.int .i64 (0 : Int), .int .i64 (0 : Int), .string (bs [])] 31)] _ := hS98.only 2; clear hS98
                        refine hK74 _ _ (came (⟨(s ++ [x81]), (i + 1)⟩) (by repeat' (first | exact Agree.refl _ _ | refine Agree.up ?_ rfl | refine Agree.hav2 ?_ rfl | refine Agree.ups2 ?_ rfl)) (by repeat' (first | exact trivial | refine ⟨by first | exact int_succ _ | (exact congrArg (Value.int .i64) (by omega)) | rfl, ?_⟩)) ?_)
                        exact ⟨⟨hS99, (by show 1 ≤ (i + 1); omega), (by show (i + 1) ≤ b.length + 1; omega), (by show (s ++ [x81]).length ≤ (i + 1); rw [List.length_append, List.length_singleton]; omega), (hs.app (fun y hy => by rw [List.mem_singleton] at hy; subst hy; assumption)), (TI.step hti hx81 (by rintro ⟨h0, h1⟩; first | omega | (rw [List.getElem?_eq_none (by omega)] at h1; cases h1) | (rw [hx84] at h1; injection h1 with h1; omega))).2 (by omega)⟩, by (show b.length + 1 - (i + 1) < b.length + 1 - i); omega⟩
                  ·
                    have hg83b := hg83
                    try simp only [decide_eq_true_eq, decide_eq_false_iff_not, Bool.not_eq_true', Bool.not_eq_false', Bool.and_eq_true, Bool.or_eq_true, Int.not_lt, Int.not_le, ne_eq, Decidable.not_not] at hg83
                    refine l_off rfl rfl rfl hg83b ?_
                    refine l_off rfl rfl rfl hg83b ?_
                    refine l_off rfl rfl rfl hg83b ?_
                    refine l_off rfl rfl rfl hg83b ?_
                    refine l_off rfl rfl rfl hg83b ?_
                    refine l_off rfl rfl rfl hg83b ?_
                    refine l_q rfl rfl (q_pickF rfl hg83b rfl) ?_
                    refine l_nil ?_
                    refine hK80 _ _ ?_
                    refine c_condF rfl rfl ?_
                    refine wp_skip ?_
                    refine hK79 _ _ ?_
                    refine wp_seq_k (fun K101 hK101 => ?_)
                    refine wp_region_lit ?_
                    refine l_q rfl rfl (q_move rfl) ?_
                    refine l_q rfl rfl (q_moveS rfl) ?_
                    refine l_q rfl rfl (q_moveI rfl) ?_
                    refine l_q rfl rfl (q_ixG (e := 5) (m := 1) (j := i) rfl rfl (by kernel_rfl) (by kernel_rfl) (by first | rfl | omega) (by omega) hG (by rw [bv_len]; first | omega | (simp only [List.length_append, List.length_map, List.length_cons, List.length_nil, List.length_take, List.length_drop, List.length_set] <;> omega))) ?_
                    refine l_q rfl rfl (q_load1 rfl (by kernel_rfl) (SlG.cell (hG.mono hS74.base) (Gle.refl _) (at1 (bv_at hx81)))) ?_
                    refine l_e rfl (fun K hK => ?_)
                    refine e_buildSlice1 (e := 5) (zv := .int .u8 0) (xs := [.tmp 92]) hS74 (by kernel_rfl) (by kernel_rfl) (by kernel_rfl) rfl rfl rfl rfl (allone (by repeat' (first | exact trivial | refine ⟨by first | rfl | assumption, ?_⟩))) rfl (fun b102 w102 (hS102 : St _ _ [.blk b102 (.cells #[.int .u8 ((x81 : Nat) : Int)] 5), .blk b5 (.cells #[.int .i64 ((x4 : Nat) : Int), .int .i64 (0 : Int), .string (bs [])] 31), .blk b2 (.cells #[.int .i64 (0 : Int), .int .i64 (0 : Int), .string (bs [])] 31)] _) => ?_)
                    clear hS74
                    have hS102o : St _ _ [.ow 5 1 (some ⟨b102, 0, none⟩) 1 1 (bv [x81]), .blk b5 (.cells #[.int .i64 ((x4 : Nat) : Int), .int .i64 (0 : Int), .string (bs [])] 31), .blk b2 (.cells #[.int .i64 (0 : Int), .int .i64 (0 : Int), .string (bs [])] 31)] _ := hS102.blkOw' (i := 0) (m := 1) (size := 1) (xs := bv [x81]) rfl rfl rfl (by decide); clear hS102
                    refine hK _ _ ?_; clear hK K
                    refine l_q rfl rfl (q_convBS (l := [x81]) rfl (hS102o.owG (i := 0) rfl) (by first | omega | (simp only [List.length_append, List.length_map, List.length_cons, List.length_nil, List.length_take, List.length_drop, List.length_set] <;> omega)) (by kernel_rfl) (by kernel_rfl)) ?_
                    refine l_q rfl rfl (q_str_add (l := s) (m := [x81]) rfl rfl (by first | omega | (simp only [List.length_append, List.length_map, List.length_cons, List.length_nil, List.length_take, List.length_drop, List.length_set] <;> omega))) ?_
                    refine l_q rfl rfl (q_assign rfl) ?_
                    refine l_nil ?_
                    refine hK101 _ _ ?_
                    refine wp_seq_k (fun K103 hK103 => ?_)
                    refine wp_region_lit ?_
                    refine l_q rfl rfl (q_moveS rfl) ?_
                    refine l_q rfl rfl (q_moveI rfl) ?_
                    refine l_q rfl rfl (q_ixG (e := 5) (m := 1) (j := i) rfl rfl (by kernel_rfl) (by kernel_rfl) (by first | rfl | omega) (by omega) hG (by rw [bv_len]; first | omega | (simp only [List.length_append, List.length_map, List.length_cons, List.length_nil, List.length_take, List.length_drop, List.length_set] <;> omega))) ?_
                    refine l_q rfl rfl (q_load1 rfl (by kernel_rfl) (SlG.cell (hG.mono hS102o.base) (Gle.refl _) (at1 (bv_at hx81)))) ?_
                    refine l_q rfl rfl (q_eql rfl rfl) ?_
                    refine l_nil ?_
                    refine hK103 _ _ ?_
                    refine c_cond rfl (fun hc104 => ?_) (fun hc104 => ?_)
                    ·
                      have hc104b := hc104
                      try simp only [decide_eq_true_eq, decide_eq_false_iff_not, Bool.not_eq_true', Bool.not_eq_false', Bool.and_eq_true, Bool.or_eq_true, Int.not_lt, Int.not_le, ne_eq, Decidable.not_not] at hc104
                      refine wp_region_lit ?_
                      refine l_q rfl rfl (q_moveI rfl) ?_
                      refine l_q rfl rfl (q_addx rfl rfl (by first | decide | omega) (by first | decide | omega)) ?_
                      refine l_q rfl rfl (q_assignI rfl) ?_
                      refine l_nil ?_
                      refine hK78 _ _ ?_
                      refine wp_region_lit ?_
                      refine l_q rfl rfl (q_moveI rfl) ?_
                      refine l_q rfl rfl (q_addx rfl rfl (by first | decide | omega) (by first | decide | omega)) ?_
                      refine l_q rfl rfl (q_assignI rfl) ?_
                      refine l_nil ?_
                      have hS105 := hS102o.fr2; clear hS102o
                      have hS106 := hS105.fr2; clear hS105
                      have hS107 : St _ _ [.blk b5 (.cells #[.int .i64 ((x4 : Nat) : Int), .int .i64 (0 : Int), .string (bs [])] 31), .blk b2 (.cells #[.int .i64 (0 : Int), .int .i64 (0 : Int), .string (bs [])] 31)] _ := hS106.only 2; clear hS106
                      refine hK74 _ _ (came (⟨(s ++ [x81]), (i + 1 + 1)⟩) (by repeat' (first | exact Agree.refl _ _ | refine Agree.up ?_ rfl | refine Agree.hav2 ?_ rfl | refine Agree.ups2 ?_ rfl)) (by repeat' (first | exact trivial | refine ⟨by first | exact int_succ _ | (exact congrArg (Value.int .i64) (by omega)) | rfl, ?_⟩)) ?_)
                      exact ⟨⟨hS107, (by show 1 ≤ (i + 1 + 1); omega), (by show (i + 1 + 1) ≤ b.length + 1; omega), (by show (s ++ [x81]).length ≤ (i + 1 + 1); rw [List.length_append, List.length_singleton]; omega), (hs.app (fun y hy => by rw [List.mem_singleton] at hy; subst hy; assumption)), (TI.step hti hx81 (by rintro ⟨h0, h1⟩; first | omega | (rw [List.getElem?_eq_none (by omega)] at h1; cases h1))).1 (by omega)⟩, by (show b.length + 1 - (i + 1 + 1) < b.length + 1 - i); omega⟩
                    ·
                      have hc104b := hc104
                      try simp only [decide_eq_true_eq, decide_eq_false_iff_not, Bool.not_eq_true', Bool.not_eq_false', Bool.and_eq_true, Bool.or_eq_true, Int.not_lt, Int.not_le, ne_eq, Decidable.not_not] at hc104
                      refine wp_skip ?_
                      refine hK78 _ _ ?_
                      refine wp_region_lit ?_
                      refine l_q rfl rfl (q_moveI rfl) ?_
                      refine l_q rfl rfl (q_addx rfl rfl (by first | decide | omega) (by first | decide | omega)) ?_
                      refine l_q rfl rfl (q_assignI rfl) ?_
                      refine l_nil ?_
                      have hS108 := hS102o.fr2; clear hS102o
                      have hS109 := hS108.fr2; clear hS108
                      have hS110 : St _ _ [.blk b5 (.cells #[.int .i64 ((x4 : Nat) : Int), .int .i64 (0 : Int), .string (bs [])] 31), .blk b2 (.cells #[.int .i64 (0 : Int), .int .i64 (0 : Int), .string (bs [])] 31)] _ := hS109.only 2; clear hS109
                      refine hK74 _ _ (came (⟨(s ++ [x81]), (i + 1)⟩) (by repeat' (first | exact Agree.refl _ _ | refine Agree.up ?_ rfl | refine Agree.hav2 ?_ rfl | refine Agree.ups2 ?_ rfl)) (by repeat' (first | exact trivial | refine ⟨by first | exact int_succ _ | (exact congrArg (Value.int .i64) (by omega)) | rfl, ?_⟩)) ?_)
                      exact ⟨⟨hS110, (by show 1 ≤ (i + 1); omega), (by show (i + 1) ≤ b.length + 1; omega), (by show (s ++ [x81]).length ≤ (i + 1); rw [List.length_append, List.length_singleton]; omega), (hs.app (fun y hy => by rw [List.mem_singleton] at hy; subst hy; assumption)), (TI.step hti hx81 (by rintro ⟨h0, h1⟩; first | omega | (rw [List.getElem?_eq_none (by omega)] at h1; cases h1))).2 (by omega)⟩, by (show b.length + 1 - (i + 1) < b.length + 1 - i); omega⟩
                ·
                  have hg82b := hg82
                  try simp only [decide_eq_true_eq, decide_eq_false_iff_not, Bool.not_eq_true', Bool.not_eq_false', Bool.and_eq_true, Bool.or_eq_true, Int.not_lt, Int.not_le, ne_eq, Decidable.not_not] at hg82
                  refine l_off rfl rfl rfl hg82b ?_
                  refine l_off rfl rfl rfl hg82b ?_
                  refine l_off rfl rfl rfl hg82b ?_
                  refine l_off rfl rfl rfl hg82b ?_
                  refine l_off rfl rfl rfl hg82b ?_
                  refine l_q rfl rfl (q_pickF rfl hg82b rfl) ?_
                  refine l_q rfl rfl (q_moveB rfl) ?_
                  refine l_off rfl rfl rfl rfl ?_
                  refine l_off rfl rfl rfl rfl ?_
                  refine l_off rfl rfl rfl rfl ?_
                  refine l_off rfl rfl rfl rfl ?_
                  refine l_off rfl rfl rfl rfl ?_
                  refine l_off rfl rfl rfl rfl ?_
                  refine l_q rfl rfl (q_pickF rfl rfl rfl) ?_
                  refine l_nil ?_
                  refine hK80 _ _ ?_
                  refine c_condF rfl rfl ?_
                  refine wp_skip ?_
                  refine hK79 _ _ ?_
                  refine wp_seq_k (fun K112 hK112 => ?_)
                  refine wp_region_lit ?_
                  refine l_q rfl rfl (q_move rfl) ?_
                  refine l_q rfl rfl (q_moveS rfl) ?_
                  refine l_q rfl rfl (q_moveI rfl) ?_
                  refine l_q rfl rfl (q_ixG (e := 5) (m := 1) (j := i) rfl rfl (by kernel_rfl) (by kernel_rfl) (by first | rfl | omega) (by omega) hG (by rw [bv_len]; first | omega | (simp only [List.length_append, List.length_map, List.length_cons, List.length_nil, List.length_take, List.length_drop, List.length_set] <;> omega))) ?_
                  refine l_q rfl rfl (q_load1 rfl (by kernel_rfl) (SlG.cell (hG.mono hS74.base) (Gle.refl _) (at1 (bv_at hx81)))) ?_
                  refine l_e rfl (fun K hK => ?_)
                  refine e_buildSlice1 (e := 5) (zv := .int .u8 0) (xs := [.tmp 92]) hS74 (by kernel_rfl) (by kernel_rfl) (by kernel_rfl) rfl rfl rfl rfl (allone (by repeat' (first | exact trivial | refine ⟨by first | rfl | assumption, ?_⟩))) rfl (fun b113 w113 (hS113 : St _ _ [.blk b113 (.cells #[.int .u8 ((x81 : Nat) : Int)] 5), .blk b5 (.cells #[.int .i64 ((x4 : Nat) : Int), .int .i64 (0 : Int), .string (bs [])] 31), .blk b2 (.cells #[.int .i64 (0 : Int), .int .i64 (0 : Int), .string (bs [])] 31)] _) => ?_)
                  clear hS74
                  have hS113o : St _ _ [.ow 5 1 (some ⟨b113, 0, none⟩) 1 1 (bv [x81]), .blk b5 (.cells #[.int .i64 ((x4 : Nat) : Int), .int .i64 (0 : Int), .string (bs [])] 31), .blk b2 (.cells #[.int .i64 (0 : Int), .int .i64 (0 : Int), .string (bs [])] 31)] _ := hS113.blkOw' (i := 0) (m := 1) (size := 1) (xs := bv [x81]) rfl rfl rfl (by decide); clear hS113
                  refine hK _ _ ?_; clear hK K
                  refine l_q rfl rfl (q_convBS (l := [x81]) rfl (hS113o.owG (i := 0) rfl) (by first | omega | (simp only [List.length_append, List.length_map, List.length_cons, List.length_nil, List.length_take, List.length_drop, List.length_set] <;> omega)) (by kernel_rfl) (by kernel_rfl)) ?_
                  refine l_q rfl rfl (q_str_add (l := s) (m := [x81]) rfl rfl (by first | omega | (simp only [List.length_append, List.length_map, List.length_cons, List.length_nil, List.length_take, List.length_drop, List.length_set] <;> omega))) ?_
                  refine l_q rfl rfl (q_assign rfl) ?_
                  refine l_nil ?_
                  refine hK112 _ _ ?_
                  refine wp_seq_k (fun K114 hK114 => ?_)
                  refine wp_region_lit ?_
                  refine l_q rfl rfl (q_moveS rfl) ?_
                  refine l_q rfl rfl (q_moveI rfl) ?_
                  refine l_q rfl rfl (q_ixG (e := 5) (m := 1) (j := i) rfl rfl (by kernel_rfl) (by kernel_rfl) (by first | rfl | omega) (by omega) hG (by rw [bv_len]; first | omega | (simp only [List.length_append, List.length_map, List.length_cons, List.length_nil, List.length_take, List.length_drop, List.length_set] <;> omega))) ?_
                  refine l_q rfl rfl (q_load1 rfl (by kernel_rfl) (SlG.cell (hG.mono hS113o.base) (Gle.refl _) (at1 (bv_at hx81)))) ?_
                  refine l_q rfl rfl (q_eql rfl rfl) ?_
                  refine l_nil ?_
                  refine hK114 _ _ ?_
                  refine c_cond rfl (fun hc115 => ?_) (fun hc115 => ?_)
                  ·
                    have hc115b := hc115
                    try simp only [decide_eq_true_eq, decide_eq_false_iff_not, Bool.not_eq_true', Bool.not_eq_false', Bool.and_eq_true, Bool.or_eq_true, Int.not_lt, Int.not_le, ne_eq, Decidable.not_not] at hc115
                    refine wp_region_lit ?_
                    refine l_q rfl rfl (q_moveI rfl) ?_
                    refine l_q rfl rfl (q_addx rfl rfl (by first | decide | omega) (by first | decide | omega)) ?_
                    refine l_q rfl rfl (q_assignI rfl) ?_
                    refine l_nil ?_
                    refine hK78 _ _ ?_
                    refine wp_region_lit ?_
                    refine l_q rfl rfl (q_moveI rfl) ?_
                    refine l_q rfl rfl (q_addx rfl rfl (by first | decide | omega) (by first | decide | omega)) ?_
                    refine l_q rfl rfl (q_assignI rfl) ?_
                    refine l_nil ?_
                    have hS116 := hS113o.fr2; clear hS113o
                    have hS117 := hS116.fr2; clear hS116
                    have hS118 : St _ _ [.blk b5 (.cells #[.int .i64 ((x4 : Nat) : Int), .int .i64 (0 : Int), .string (bs [])] 31), .blk b2 (.cells #[.int .i64 (0 : Int), .int .i64 (0 : Int), .string (bs [])] 31)] _ := hS117.only 2; clear hS117
                    refine hK74 _ _ (came (⟨(s ++ [x81]), (i + 1 + 1)⟩) (by repeat' (first | exact Agree.refl _ _ | refine Agree.up ?_ rfl | refine Agree.hav2 ?_ rfl | refine Agree.ups2 ?_ rfl)) (by repeat' (first | exact trivial | refine ⟨by first | exact int_succ _ | (exact congrArg (Value.int .i64) (by omega)) | rfl, ?_⟩)) ?_)
                    exact ⟨⟨hS118, (by show 1 ≤ (i + 1 + 1); omega), (by show (i + 1 + 1) ≤ b.length + 1; omega), (by show (s ++ [x81]).length ≤ (i + 1 + 1); rw [List.length_append, List.length_singleton]; omega), (hs.app (fun y hy => by rw [List.mem_singleton] at hy; subst hy; assumption)), (TI.step hti hx81 (by rintro ⟨h0, h1⟩; first | omega | (rw [List.getElem?_eq_none (by omega)] at h1; cases h1))).1 (by omega)⟩, by (show b.length + 1 - (i + 1 + 1) < b.length + 1 - i); omega⟩
                  ·
                    have hc115b := hc115
                    try simp only [decide_eq_true_eq, decide_eq_false_iff_not, Bool.not_eq_true', Bool.not_eq_false', Bool.and_eq_true, Bool.or_eq_true, Int.not_lt, Int.not_le, ne_eq, Decidable.not_not] at hc115
                    refine wp_skip ?_
                    refine hK78 _ _ ?_
                    refine wp_region_lit ?_
                    refine l_q rfl rfl (q_moveI rfl) ?_
                    refine l_q rfl rfl (q_addx rfl rfl (by first | decide | omega) (by first | decide | omega)) ?_
                    refine l_q rfl rfl (q_assignI rfl) ?_
                    refine l_nil ?_
                    have hS119 := hS113o.fr2; clear hS113o
                    have hS120 := hS119.fr2; clear hS119
                    have hS121 : St _ _ [.blk b5 (.cells #[.int .i64 ((x4 : Nat) : Int), .int .i64 (0 : Int), .string (bs [])] 31), .blk b2 (.cells #[.int .i64 (0 : Int), .int .i64 (0 : Int), .string (bs [])] 31)] _ := hS120.only 2; clear hS120
                    refine hK74 _ _ (came (⟨(s ++ [x81]), (i + 1)⟩) (by repeat' (first | exact Agree.refl _ _ | refine Agree.up ?_ rfl | refine Agree.hav2 ?_ rfl | refine Agree.ups2 ?_ rfl)) (by repeat' (first | exact trivial | refine ⟨by first | exact int_succ _ | (exact congrArg (Value.int .i64) (by omega)) | rfl, ?_⟩)) ?_)
                    exact ⟨⟨hS121, (by show 1 ≤ (i + 1); omega), (by show (i + 1) ≤ b.length + 1; omega), (by show (s ++ [x81]).length ≤ (i + 1); rw [List.length_append, List.length_singleton]; omega), (hs.app (fun y hy => by rw [List.mem_singleton] at hy; subst hy; assumption)), (TI.step hti hx81 (by rintro ⟨h0, h1⟩; first | omega | (rw [List.getElem?_eq_none (by omega)] at h1; cases h1))).2 (by omega)⟩, by (show b.length + 1 - (i + 1) < b.length + 1 - i); omega⟩
              ·
                have hc77b := hc77
                try simp only [decide_eq_true_eq, decide_eq_false_iff_not, Bool.not_eq_true', Bool.not_eq_false', Bool.and_eq_true, Bool.or_eq_true, Int.not_lt, Int.not_le, ne_eq, Decidable.not_not] at hc77
                refine wp_exit ?_
                refine hK72 _ _ ?_
                refine wp_seq_k (fun K122 hK122 => ?_)
                refine wp_region_lit ?_
                refine l_q rfl rfl (q_loadA (m := 3) rfl (by kernel_rfl) (by kernel_rfl) (hS74.blk (i := 0) rfl) rfl rfl) ?_
                refine l_e rfl (fun K hK => ?_)
                refine e_storeA hS74 rfl rfl (by kernel_rfl) (by repeat' (first | exact trivial | refine ⟨by first | rfl | assumption | exact one_if (by assumption), ?_⟩)) (i := 1) rfl rfl (fun w123 (hS123 : St _ _ [.blk b5 (.cells #[.int .i64 ((x4 : Nat) : Int), .int .i64 (0 : Int), .string (bs [])] 31), .blk b2 (.cells #[.int .i64 ((x4 : Nat) : Int), .int .i64 (0 : Int), .string (bs [])] 31)] _) => ?_)
                clear hS74
                refine hK _ _ ?_; clear hK K
                refine l_q rfl rfl (q_assignI rfl) ?_
                refine l_nil ?_
                refine hK122 _ _ ?_
                refine wp_ret ?_
                refine c_retCT (m := 3) rfl (by kernel_rfl) (by kernel_rfl) rfl (hS123.blk (i := 1) rfl) rfl rfl ?_
                exact ⟨_, rfl, RTakeP.mk (a := (((x4 : Nat) : Int), (0 : Int), [])) (n := 0) (vok_mk Bytes.nil ⟨by omega, by omega⟩ ⟨by omega, by omega⟩) (by omega) (rt_no (rt4n hti hx4 (by omega) (by omega))), hS123.drop⟩
          ·
            have hc69b := hc69
            try simp only [decide_eq_true_eq, decide_eq_false_iff_not, Bool.not_eq_true', Bool.not_eq_false', Bool.and_eq_true, Bool.or_eq_true, Int.not_lt, Int.not_le, ne_eq, Decidable.not_not] at hc69
            refine wp_region_lit ?_
            refine l_q rfl rfl (q_eql rfl rfl) ?_
            refine l_q rfl rfl (q_assignB rfl) ?_
            refine l_nil ?_
            refine hK67 _ _ ?_
            refine c_cond rfl (fun hc124 => ?_) (fun hc124 => ?_)
            ·
              have hc124b := hc124
              try simp only [decide_eq_true_eq, decide_eq_false_iff_not, Bool.not_eq_true', Bool.not_eq_false', Bool.and_eq_true, Bool.or_eq_true, Int.not_lt, Int.not_le, ne_eq, Decidable.not_not] at hc124
              refine wp_seq_k (fun K125 hK125 => ?_)
              refine wp_region_lit ?_
              refine l_q rfl rfl (q_assign rfl) ?_
              refine l_nil ?_
              refine hK125 _ _ ?_
              refine wp_seq_k (fun K126 hK126 => ?_)
              refine wp_seq_k (fun K127 hK127 => ?_)
              refine wp_region_lit ?_
              refine l_q rfl rfl (q_assignI rfl) ?_
              refine l_nil ?_
              refine hK127 _ _ ?_
              refine wp_block ?_
              refine c_loop (τ := (List Nat) × Nat) [(3, 3), (8, 9), (57, 102)] (fun x => (fun (s : List Nat) (i : Nat) => [(8, .string (bs s)), (9, .int .i64 ((i : Nat) : Int))]) x.1 x.2) (fun x w' => (fun (s : List Nat) (i : Nat) => St w (fun _ => False) [.blk b5 (.cells #[.int .i64 ((x4 : Nat) : Int), .int .i64 (0 : Int), .string (bs [])] 31), .blk b2 (.cells #[.int .i64 (0 : Int), .int .i64 (0 : Int), .string (bs [])] 31)] w' ∧ 1 ≤ i ∧ i ≤ b.length + 1 ∧ s.length ≤ i ∧ Bytes s ∧ TI b s i) x.1 x.2) (fun x => (fun (s : List Nat) (i : Nat) => b.length + 1 - i) x.1 x.2) (⟨[], 1⟩) ?_ (by refine ⟨rfl, ⟨rfl, trivial⟩⟩) (fun x128 j128 w128 hJ128 K128 hK128 => ?_)
              ·
                exact ⟨hS6, Nat.le_refl _, by omega, Nat.zero_le _, Bytes.nil, TI.zero b⟩
              ·
                obtain ⟨s, i⟩ := x128
                obtain ⟨hS128, hi1, hi2, hsl, hs, hti⟩ := hJ128
                try dsimp only at hS128 hi1 hi2 hsl hs hti ⊢
                refine wp_seq_k (fun K129 hK129 => ?_)
                refine wp_seq_k (fun K130 hK130 => ?_)
                refine wp_region_lit ?_
                refine l_q rfl rfl (q_moveI rfl) ?_
                refine l_q rfl rfl (q_moveS rfl) ?_
                refine l_q rfl rfl (q_lenSl (e := 5) rfl (by kernel_rfl)) ?_
                refine l_q rfl rfl (q_lss rfl rfl) ?_
                refine l_nil ?_
                refine hK130 _ _ ?_
                refine c_cond rfl (fun hc131 => ?_) (fun hc131 => ?_)
                ·
                  have hc131b := hc131
                  try simp only [decide_eq_true_eq, decide_eq_false_iff_not, Bool.not_eq_true', Bool.not_eq_false', Bool.and_eq_true, Bool.or_eq_true, Int.not_lt, Int.not_le, ne_eq, Decidable.not_not] at hc131
                  refine wp_skip ?_
                  refine hK129 _ _ ?_
                  refine wp_seq_k (fun K132 hK132 => ?_)
                  refine wp_block ?_
                  refine wp_seq_k (fun K133 hK133 => ?_)
                  refine wp_seq_k (fun K134 hK134 => ?_)
                  refine wp_region_lit ?_
                  refine l_q rfl rfl (q_moveS rfl) ?_
                  refine l_q rfl rfl (q_moveI rfl) ?_
                  refine l_q rfl rfl (q_ixG (e := 5) (m := 1) (j := i) rfl rfl (by kernel_rfl) (by kernel_rfl) (by first | rfl | omega) (by omega) hG (by rw [bv_len]; first | omega | (simp only [List.length_append, List.length_map, List.length_cons, List.length_nil, List.length_take, List.length_drop, List.length_set] <;> omega))) ?_
                  obtain ⟨x135, hx135⟩ : ∃ x, (b)[i]? = some x := ⟨_, List.getElem?_eq_getElem (by first | omega | (simp only [List.length_append, List.length_map, List.length_cons, List.length_nil, List.length_take, List.length_drop, List.length_set] <;> omega) | (simp <;> omega))⟩
                  have hb135 : x135 < 256 := hb x135 (List.mem_of_getElem? hx135)
                  refine l_q rfl rfl (q_load1 rfl (by kernel_rfl) (SlG.cell (hG.mono hS128.base) (Gle.refl _) (at1 (bv_at hx135)))) ?_
                  refine l_q rfl rfl (q_eql rfl rfl) ?_
                  refine l_q rfl rfl (q_moveB rfl) ?_
                  refine g_splitL (t := 68) rfl (fun hg136 => ?_) (fun hg136 => ?_)
                  ·
                    have hg136b := hg136
                    try simp only [decide_eq_true_eq, decide_eq_false_iff_not, Bool.not_eq_true', Bool.not_eq_false', Bool.and_eq_true, Bool.or_eq_true, Int.not_lt, Int.not_le, ne_eq, Decidable.not_not] at hg136
                    refine l_on rfl rfl hg136b ?_
                    refine l_q rfl rfl (q_moveI rfl) ?_
                    refine l_on rfl rfl hg136b ?_
                    refine l_q rfl rfl (q_addx rfl rfl (by first | decide | omega) (by first | decide | omega)) ?_
                    refine l_on rfl rfl hg136b ?_
                    refine l_q rfl rfl (q_moveS rfl) ?_
                    refine l_on rfl rfl hg136b ?_
                    refine l_q rfl rfl (q_lenSl (e := 5) rfl (by kernel_rfl)) ?_
                    refine l_on rfl rfl hg136b ?_
                    refine l_q rfl rfl (q_lss rfl rfl) ?_
                    refine l_q rfl rfl (q_pickT rfl hg136b rfl) ?_
                    refine l_q rfl rfl (q_moveB rfl) ?_
                    refine g_splitL (t := 75) rfl (fun hg137 => ?_) (fun hg137 => ?_)
                    ·
                      have hg137b := hg137
                      try simp only [decide_eq_true_eq, decide_eq_false_iff_not, Bool.not_eq_true', Bool.not_eq_false', Bool.and_eq_true, Bool.or_eq_true, Int.not_lt, Int.not_le, ne_eq, Decidable.not_not] at hg137
                      refine l_on rfl rfl hg137b ?_
                      refine l_q rfl rfl (q_moveS rfl) ?_
                      refine l_on rfl rfl hg137b ?_
                      refine l_q rfl rfl (q_moveI rfl) ?_
                      refine l_on rfl rfl hg137b ?_
                      refine l_q rfl rfl (q_addx rfl rfl (by first | decide | omega) (by first | decide | omega)) ?_
                      refine l_on rfl rfl hg137b ?_
                      refine l_q rfl rfl (q_ixG (e := 5) (m := 1) (j := (i + 1)) rfl rfl (by kernel_rfl) (by kernel_rfl) (by first | rfl | omega) (by omega) hG (by rw [bv_len]; first | omega | (simp only [List.length_append, List.length_map, List.length_cons, List.length_nil, List.length_take, List.length_drop, List.length_set] <;> omega))) ?_
                      refine l_on rfl rfl hg137b ?_
                      obtain ⟨x138, hx138⟩ : ∃ x, (b)[(i + 1)]? = some x := ⟨_, List.getElem?_eq_getElem (by first | omega | (simp only [List.length_append, List.length_map, List.length_cons, List.length_nil, List.length_take, List.length_drop, List.length_set] <;> omega) | (simp <;> omega))⟩
                      have hb138 : x138 < 256 := hb x138 (List.mem_of_getElem? hx138)
                      refine l_q rfl rfl (q_load1 rfl (by kernel_rfl) (SlG.cell (hG.mono hS128.base) (Gle.refl _) (at1 (bv_at hx138)))) ?_
                      refine l_on rfl rfl hg137b ?_
                      refine l_q rfl rfl (q_eql rfl rfl) ?_
                      refine l_q rfl rfl (q_pickT rfl hg137b rfl) ?_
                      refine l_nil ?_
                      refine hK134 _ _ ?_
                      refine c_cond rfl (fun hc139 => ?_) (fun hc139 => ?_)
                      ·
                        have hc139b := hc139
                        try simp only [decide_eq_true_eq, decide_eq_false_iff_not, Bool.not_eq_true', Bool.not_eq_false', Bool.and_eq_true, Bool.or_eq_true, Int.not_lt, Int.not_le, ne_eq, Decidable.not_not] at hc139
                        refine wp_seq_k (fun K140 hK140 => ?_)
                        refine wp_region_lit ?_
                        refine l_q rfl rfl (q_move rfl) ?_
                        refine l_q rfl rfl (q_fieldAddr (ft := 9) (o := 2) rfl (by kernel_rfl)) ?_
                        refine l_e rfl (fun K hK => ?_)
                        refine e_store1 hS128 rfl rfl (by kernel_rfl) (by first | rfl | assumption) (i := 0) rfl rfl (fun w141 (hS141 : St _ _ [.blk b5 (.cells #[.int .i64 ((x4 : Nat) : Int), .int .i64 (0 : Int), .string (bs s)] 31), .blk b2 (.cells #[.int .i64 (0 : Int), .int .i64 (0 : Int), .string (bs [])] 31)] _) => ?_)
                        clear hS128
                        refine hK _ _ ?_; clear hK K
                        refine l_nil ?_
                        refine hK140 _ _ ?_
                        refine wp_seq_k (fun K142 hK142 => ?_)
                        refine wp_region_lit ?_
                        refine l_q rfl rfl (q_loadA (m := 3) rfl (by kernel_rfl) (by kernel_rfl) (hS141.blk (i := 0) rfl) rfl rfl) ?_
                        refine l_q rfl rfl (q_moveI rfl) ?_
                        refine l_q rfl rfl (q_addx rfl rfl (by first | decide | omega) (by first | decide | omega)) ?_
                        refine l_e rfl (fun K hK => ?_)
                        refine e_storeA hS141 rfl rfl (by kernel_rfl) (by repeat' (first | exact trivial | refine ⟨by first | rfl | assumption | exact one_if (by assumption), ?_⟩)) (i := 1) rfl rfl (fun w143 (hS143 : St _ _ [.blk b5 (.cells #[.int .i64 ((x4 : Nat) : Int), .int .i64 (0 : Int), .string (bs s)] 31), .blk b2 (.cells #[.int .i64 ((x4 : Nat) : Int), .int .i64 (0 : Int), .string (bs s)] 31)] _) => ?_)
                        clear hS141
                        refine hK _ _ ?_; clear hK K
                        refine l_q rfl rfl (q_assignI rfl) ?_
                        refine l_nil ?_
                        refine hK142 _ _ ?_
                        refine wp_ret ?_
                        refine c_retCT (m := 3) rfl (by kernel_rfl) (by kernel_rfl) rfl (hS143.blk (i := 1) rfl) rfl rfl ?_
                        exact ⟨_, rfl, RTakeP.mk (a := (((x4 : Nat) : Int), (0 : Int), s)) (n := (i + 2)) (vok_mk hs ⟨by omega, by omega⟩ ⟨by omega, by omega⟩) (by omega) (rt4 hti hx4 (by omega) hx135 hx138 (by omega) (by omega)), hS143.drop⟩
                      ·
                        have hc139b := hc139
                        try simp only [decide_eq_true_eq, decide_eq_false_iff_not, Bool.not_eq_true', Bool.not_eq_false', Bool.and_eq_true, Bool.or_eq_true, Int.not_lt, Int.not_le, ne_eq, Decidable.not_not] at hc139
                        refine wp_skip ?_
                        refine hK133 _ _ ?_
                        refine wp_seq_k (fun K144 hK144 => ?_)
                        refine wp_region_lit ?_
                        refine l_q rfl rfl (q_move rfl) ?_
                        refine l_q rfl rfl (q_moveS rfl) ?_
                        refine l_q rfl rfl (q_moveI rfl) ?_
                        refine l_q rfl rfl (q_ixG (e := 5) (m := 1) (j := i) rfl rfl (by kernel_rfl) (by kernel_rfl) (by first | rfl | omega) (by omega) hG (by rw [bv_len]; first | omega | (simp only [List.length_append, List.length_map, List.length_cons, List.length_nil, List.length_take, List.length_drop, List.length_set] <;> omega))) ?_
                        refine l_q rfl rfl (q_load1 rfl (by kernel_rfl) (SlG.cell (hG.mono hS128.base) (Gle.refl _) (at1 (bv_at hx135)))) ?_
                        refine l_e rfl (fun K hK => ?_)
                        refine e_buildSlice1 (e := 5) (zv := .int .u8 0) (xs := [.tmp 92]) hS128 (by kernel_rfl) (by kernel_rfl) (by kernel_rfl) rfl rfl rfl rfl (allone (by repeat' (first | exact trivial | refine ⟨by first | rfl | assumption, ?_⟩))) rfl (fun b145 w145 (hS145 : St _ _ [.blk b145 (.cells #[.int .u8 ((x135 : Nat) : Int)] 5), .blk b5 (.cells #[.int .i64 ((x4 : Nat) : Int), .int .i64 (0 : Int), .string (bs [])] 31), .blk b2 (.cells #[.int .i64 (0 : Int), .int .i64 (0 : Int), .string (bs [])] 31)] _) => ?_)
                        clear hS128
                        have hS145o : St _ _ [.ow 5 1 (some ⟨b145, 0, none⟩) 1 1 (bv [x135]), .blk b5 (.cells #[.int .i64 ((x4 : Nat) : Int), .int .i64 (0 : Int), .string (bs [])] 31), .blk b2 (.cells #[.int .i64 (0 : Int), .int .i64 (0 : Int), .string (bs [])] 31)] _ := hS145.blkOw' (i := 0) (m := 1) (size := 1) (xs := bv [x135]) rfl rfl rfl (by decide); clear hS145
                        refine hK _ _ ?_; clear hK K
                        refine l_q rfl rfl (q_convBS (l := [x135]) rfl (hS145o.owG (i := 0) rfl) (by first | omega | (simp only [List.length_append, List.length_map, List.length_cons, List.length_nil, List.length_take, List.length_drop, List.length_set] <;> omega)) (by kernel_rfl) (by kernel_rfl)) ?_
                        refine l_q rfl rfl (q_str_add (l := s) (m := [x135]) rfl rfl (by first | omega | (simp only [List.length_append, List.length_map, List.length_cons, List.length_nil, List.length_take, List.length_drop, List.length_set] <;> omega))) ?_
                        refine l_q rfl rfl (q_assign rfl) ?_
                        refine l_nil ?_
                        refine hK144 _ _ ?_
                        refine wp_seq_k (fun K146 hK146 => ?_)
                        refine wp_region_lit ?_
                        refine l_q rfl rfl (q_moveS rfl) ?_
                        refine l_q rfl rfl (q_moveI rfl) ?_
                        refine l_q rfl rfl (q_ixG (e := 5) (m := 1) (j := i) rfl rfl (by kernel_rfl) (by kernel_rfl) (by first | rfl | omega) (by omega) hG (by rw [bv_len]; first | omega | (simp only [List.length_append, List.length_map, List.length_cons, List.length_nil, List.length_take, List.length_drop, List.length_set] <;> omega))) ?_
                        refine l_q rfl rfl (q_load1 rfl (by kernel_rfl) (SlG.cell (hG.mono hS145o.base) (Gle.refl _) (at1 (bv_at hx135)))) ?_
                        refine l_q rfl rfl (q_eql rfl rfl) ?_
                        refine l_nil ?_
                        refine hK146 _ _ ?_
                        refine c_cond rfl (fun hc147 => ?_) (fun hc147 => ?_)
                        ·
                          have hc147b := hc147
                          try simp only [decide_eq_true_eq, decide_eq_false_iff_not, Bool.not_eq_true', Bool.not_eq_false', Bool.and_eq_true, Bool.or_eq_true, Int.not_lt, Int.not_le, ne_eq, Decidable.not_not] at hc147
                          refine wp_region_lit ?_
                          refine l_q rfl rfl (q_moveI rfl) ?_
                          refine l_q rfl rfl (q_addx rfl rfl (by first | decide | omega) (by first | decide | omega)) ?_
                          refine l_q rfl rfl (q_assignI rfl) ?_
                          refine l_nil ?_
                          refine hK132 _ _ ?_
                          refine wp_region_lit ?_
                          refine l_q rfl rfl (q_moveI rfl) ?_
                          refine l_q rfl rfl (q_addx rfl rfl (by first | decide | omega) (by first | decide | omega)) ?_
                          refine l_q rfl rfl (q_assignI rfl) ?_
                          refine l_nil ?_
                          have hS148 := hS145o.fr2; clear hS145o
                          have hS149 := hS148.fr2; clear hS148
                          have hS150 : St _ _ [.blk b5 (.cells #[.int .i64 ((x4 : Nat) : Int), .int .i64 (0 : Int), .string (bs [])] 31), .blk b2 (.cells #[.int .i64 (0 : Int), .int .i64 (0 : Int), .string (bs [])] 31)] _ := hS149.only 2; clear hS149
                          refine hK128 _ _ (came (⟨(s ++ [x135]), (i + 1 + 1)⟩) (by repeat' (first | exact Agree.refl _ _ | refine Agree.up ?_ rfl | refine Agree.hav2 ?_ rfl | refine Agree.ups2 ?_ rfl)) (by repeat' (first | exact trivial | refine ⟨by first | exact int_succ _ | (exact congrArg (Value.int .i64) (by omega)) | rfl, ?_⟩)) ?_)
                          exact ⟨⟨hS150, (by show 1 ≤ (i + 1 + 1); omega), (by show (i + 1 + 1) ≤ b.length + 1; omega), (by show (s ++ [x135]).length ≤ (i + 1 + 1); rw [List.length_append, List.length_singleton]; omega), (hs.app (fun y hy => by rw [List.mem_singleton] at hy; subst hy; assumption)), (TI.step hti hx135 (by rintro ⟨h0, h1⟩; first | omega | (rw [List.getElem?_eq_none (by omega)] at h1; cases h1) | (rw [hx138] at h1; injection h1 with h1; omega))).1 (by omega)⟩, by (show b.length + 1 - (i + 1 + 1) < b.length + 1 - i); omega⟩
                        ·
                          have hc147b := hc147
                          try simp only [decide_eq_true_eq, decide_eq_false_iff_not, Bool.not_eq_true', Bool.not_eq_false', Bool.and_eq_true, Bool.or_eq_true, Int.not_lt, Int.not_le, ne_eq, Decidable.not_not] at hc147
                          refine wp_skip ?_
                          refine hK132 _ _ ?_
                          refine wp_region_lit ?_
                          refine l_q rfl rfl (q_moveI rfl) ?_
                          refine l_q rfl rfl (q_addx rfl rfl (by first | decide | omega) (by first | decide | omega)) ?_
                          refine l_q rfl rfl (q_assignI rfl) ?_
                          refine l_nil ?_
                          have hS151 := hS145o.fr2; clear hS145o
                          have hS152 := hS151.fr2; clear hS151
                          have hS153 : St _ _ [.blk b5 (.cells #[.int .i64 ((x4 : Nat) : Int), .int .i64 (0 : Int), .string (bs [])] 31), .blk b2 (.cells #[.int .i64 (0 : Int), .int .i64 (0 : Int), .string (bs [])] 31)] _ := hS152.only 2; clear hS152
                          refine hK128 _ _ (came (⟨(s ++ [x135]), (i + 1)⟩) (by repeat' (first | exact Agree.refl _ _ | refine Agree.up ?_ rfl | refine Agree.hav2 ?_ rfl | refine Agree.ups2 ?_ rfl)) (by repeat' (first | exact trivial | refine ⟨by first | exact int_succ _ | (exact congrArg (Value.int .i64) (by omega)) | rfl, ?_⟩)) ?_)
                          exact ⟨⟨hS153, (by show 1 ≤ (i + 1); omega), (by show (i + 1) ≤ b.length + 1; omega), (by show (s ++ [x135]).length ≤ (i + 1); rw [List.length_append, List.length_singleton]; omega), (hs.app (fun y hy => by rw [List.mem_singleton] at hy; subst hy; assumption)), (TI.step hti hx135 (by rintro ⟨h0, h1⟩; first | omega | (rw [List.getElem?_eq_none (by omega)] at h1; cases h1) | (rw [hx138] at h1; injection h1 with h1; omega))).2 (by omega)⟩, by (show b.length + 1 - (i + 1) < b.length + 1 - i); omega⟩
                    ·
                      have hg137b := hg137
                      try simp only [decide_eq_true_eq, decide_eq_false_iff_not, Bool.not_eq_true', Bool.not_eq_false', Bool.and_eq_true, Bool.or_eq_true, Int.not_lt, Int.not_le, ne_eq, Decidable.not_not] at hg137
                      refine l_off rfl rfl rfl hg137b ?_
                      refine l_off rfl rfl rfl hg137b ?_
                      refine l_off rfl rfl rfl hg137b ?_
                      refine l_off rfl rfl rfl hg137b ?_
                      refine l_off rfl rfl rfl hg137b ?_
                      refine l_off rfl rfl rfl hg137b ?_
                      refine l_q rfl rfl (q_pickF rfl hg137b rfl) ?_
                      refine l_nil ?_
                      refine hK134 _ _ ?_
                      refine c_condF rfl rfl ?_
                      refine wp_skip ?_
                      refine hK133 _ _ ?_
                      refine wp_seq_k (fun K155 hK155 => ?_)
                      refine wp_region_lit ?_
                      refine l_q rfl rfl (q_move rfl) ?_
                      refine l_q rfl rfl (q_moveS rfl) ?_
                      refine l_q rfl rfl (q_moveI rfl) ?_
                      refine l_q rfl rfl (q_ixG (e := 5) (m := 1) (j := i) rfl rfl (by kernel_rfl) (by kernel_rfl) (by first | rfl | omega) (by omega) hG (by rw [bv_len]; first | omega | (simp only [List.length_append, List.length_map, List.length_cons, List.length_nil, List.length_take, List.length_drop, List.length_set] <;> omega))) ?_
                      refine l_q rfl rfl (q_load1 rfl (by kernel_rfl) (SlG.cell (hG.mono hS128.base) (Gle.refl _) (at1 (bv_at hx135)))) ?_
                      refine l_e rfl (fun K hK => ?_)
                      refine e_buildSlice1 (e := 5) (zv := .int .u8 0) (xs := [.tmp 92]) hS128 (by kernel_rfl) (by kernel_rfl) (by kernel_rfl) rfl rfl rfl rfl (allone (by repeat' (first | exact trivial | refine ⟨by first | rfl | assumption, ?_⟩))) rfl (fun b156 w156 (hS156 : St _ _ [.blk b156 (.cells #[.int .u8 ((x135 : Nat) : Int)] 5), .blk b5 (.cells #[.int .i64 ((x4 : Nat) : Int), .int .i64 (0 : Int), .string (bs [])] 31), .blk b2 (.cells #[.int .i64 (0 : Int), .int .i64 (0 : Int), .string (bs [])] 31)] _) => ?_)
                      clear hS128
                      have hS156o : St _ _ [.ow 5 1 (some ⟨b156, 0, none⟩) 1 1 (bv [x135]), .blk b5 (.cells #[.int .i64 ((x4 : Nat) : Int), .int .i64 (0 : Int), .string (bs [])] 31), .blk b2 (.cells #[.int .i64 (0 : Int), .int .i64 (0 : Int), .string (bs [])] 31)] _ := hS156.blkOw' (i := 0) (m := 1) (size := 1) (xs := bv [x135]) rfl rfl rfl (by decide); clear hS156
                      refine hK _ _ ?_; clear hK K
                      refine l_q rfl rfl (q_convBS (l := [x135]) rfl (hS156o.owG (i := 0) rfl) (by first | omega | (simp only [List.length_append, List.length_map, List.length_cons, List.length_nil, List.length_take, List.length_drop, List.length_set] <;> omega)) (by kernel_rfl) (by kernel_rfl)) ?_
                      refine l_q rfl rfl (q_str_add (l := s) (m := [x135]) rfl rfl (by first | omega | (simp only [List.length_append, List.length_map, List.length_cons, List.length_nil, List.length_take, List.length_drop, List.length_set] <;> omega))) ?_
                      refine l_q rfl rfl (q_assign rfl) ?_
                      refine l_nil ?_
                      refine hK155 _ _ ?_
                      refine wp_seq_k (fun K157 hK157 => ?_)
                      refine wp_region_lit ?_
                      refine l_q rfl rfl (q_moveS rfl) ?_
                      refine l_q rfl rfl (q_moveI rfl) ?_
                      refine l_q rfl rfl (q_ixG (e := 5) (m := 1) (j := i) rfl rfl (by kernel_rfl) (by kernel_rfl) (by first | rfl | omega) (by omega) hG (by rw [bv_len]; first | omega | (simp only [List.length_append, List.length_map, List.length_cons, List.length_nil, List.length_take, List.length_drop, List.length_set] <;> omega))) ?_
                      refine l_q rfl rfl (q_load1 rfl (by kernel_rfl) (SlG.cell (hG.mono hS156o.base) (Gle.refl _) (at1 (bv_at hx135)))) ?_
                      refine l_q rfl rfl (q_eql rfl rfl) ?_
                      refine l_nil ?_
                      refine hK157 _ _ ?_
                      refine c_cond rfl (fun hc158 => ?_) (fun hc158 => ?_)
                      ·
                        have hc158b := hc158
                        try simp only [decide_eq_true_eq, decide_eq_false_iff_not, Bool.not_eq_true', Bool.not_eq_false', Bool.and_eq_true, Bool.or_eq_true, Int.not_lt, Int.not_le, ne_eq, Decidable.not_not] at hc158
                        refine wp_region_lit ?_
                        refine l_q rfl rfl (q_moveI rfl) ?_
                        refine l_q rfl rfl (q_addx rfl rfl (by first | decide | omega) (by first | decide | omega)) ?_
                        refine l_q rfl rfl (q_assignI rfl) ?_
                        refine l_nil ?_
                        refine hK132 _ _ ?_
                        refine wp_region_lit ?_
                        refine l_q rfl rfl (q_moveI rfl) ?_
                        refine l_q rfl rfl (q_addx rfl rfl (by first | decide | omega) (by first | decide | omega)) ?_
                        refine l_q rfl rfl (q_assignI rfl) ?_
                        refine l_nil ?_
                        have hS159 := hS156o.fr2; clear hS156o
                        have hS160 := hS159.fr2; clear hS159
                        have hS161 : St _ _ [.blk b5 (.cells #[.int .i64 ((x4 : Nat) : Int), .int .i64 (0 : Int), .string (bs [])] 31), .blk b2 (.cells #[.int .i64 (0 : Int), .int .i64 (0 : Int), .string (bs [])] 31)] _ := hS160.only 2; clear hS160
                        refine hK128 _ _ (came (⟨(s ++ [x135]), (i + 1 + 1)⟩) (by repeat' (first | exact Agree.refl _ _ | refine Agree.up ?_ rfl | refine Agree.hav2 ?_ rfl | refine Agree.ups2 ?_ rfl)) (by repeat' (first | exact trivial | refine ⟨by first | exact int_succ _ | (exact congrArg (Value.int .i64) (by omega)) | rfl, ?_⟩)) ?_)
                        exact ⟨⟨hS161, (by show 1 ≤ (i + 1 + 1); omega), (by show (i + 1 + 1) ≤ b.length + 1; omega), (by show (s ++ [x135]).length ≤ (i + 1 + 1); rw [List.length_append, List.length_singleton]; omega), (hs.app (fun y hy => by rw [List.mem_singleton] at hy; subst hy; assumption)), (TI.step hti hx135 (by rintro ⟨h0, h1⟩; first | omega | (rw [List.getElem?_eq_none (by omega)] at h1; cases h1))).1 (by omega)⟩, by (show b.length + 1 - (i + 1 + 1) < b.length + 1 - i); omega⟩
                      ·
                        have hc158b := hc158
                        try simp only [decide_eq_true_eq, decide_eq_false_iff_not, Bool.not_eq_true', Bool.not_eq_false', Bool.and_eq_true, Bool.or_eq_true, Int.not_lt, Int.not_le, ne_eq, Decidable.not_not] at hc158
                        refine wp_skip ?_
                        refine hK132 _ _ ?_
                        refine wp_region_lit ?_
                        refine l_q rfl rfl (q_moveI rfl) ?_
                        refine l_q rfl rfl (q_addx rfl rfl (by first | decide | omega) (by first | decide | omega)) ?_
                        refine l_q rfl rfl (q_assignI rfl) ?_
                        refine l_nil ?_
                        have hS162 := hS156o.fr2; clear hS156o
                        have hS163 := hS162.fr2; clear hS162
                        have hS164 : St _ _ [.blk b5 (.cells #[.int .i64 ((x4 : Nat) : Int), .int .i64 (0 : Int), .string (bs [])] 31), .blk b2 (.cells #[.int .i64 (0 : Int), .int .i64 (0 : Int), .string (bs [])] 31)] _ := hS163.only 2; clear hS163
                        refine hK128 _ _ (came (⟨(s ++ [x135]), (i + 1)⟩) (by repeat' (first | exact Agree.refl _ _ | refine Agree.up ?_ rfl | refine Agree.hav2 ?_ rfl | refine Agree.ups2 ?_ rfl)) (by repeat' (first | exact trivial | refine ⟨by first | exact int_succ _ | (exact congrArg (Value.int .i64) (by omega)) | rfl, ?_⟩)) ?_)
                        exact ⟨⟨hS164, (by show 1 ≤ (i + 1); omega), (by show (i + 1) ≤ b.length + 1; omega), (by show (s ++ [x135]).length ≤ (i + 1); rw [List.length_append, List.length_singleton]; omega), (hs.app (fun y hy => by rw [List.mem_singleton] at hy; subst hy; assumption)), (TI.step hti hx135 (by rintro ⟨h0, h1⟩; first | omega | (rw [List.getElem?_eq_none (by omega)] at h1; cases h1))).2 (by omega)⟩, by (show b.length + 1 - (i + 1) < b.length + 1 - i); omega⟩
                  ·
                    have hg136b := hg136
                    try simp only [decide_eq_true_eq, decide_eq_false_iff_not, Bool.not_eq_true', Bool.not_eq_false', Bool.and_eq_true, Bool.or_eq_true, Int.not_lt, Int.not_le, ne_eq, Decidable.not_not] at hg136
                    refine l_off rfl rfl rfl hg136b ?_
                    refine l_off rfl rfl rfl hg136b ?_
                    refine l_off rfl rfl rfl hg136b ?_
                    refine l_off rfl rfl rfl hg136b ?_
                    refine l_off rfl rfl rfl hg136b ?_
                    refine l_q rfl rfl (q_pickF rfl hg136b rfl) ?_
                    refine l_q rfl rfl (q_moveB rfl) ?_
                    refine l_off rfl rfl rfl rfl ?_
                    refine l_off rfl rfl rfl rfl ?_
                    refine l_off rfl rfl rfl rfl ?_
                    refine l_off rfl rfl rfl rfl ?_
                    refine l_off rfl rfl rfl rfl ?_
                    refine l_off rfl rfl rfl rfl ?_
                    refine l_q rfl rfl (q_pickF rfl rfl rfl) ?_
                    refine l_nil ?_
                    refine hK134 _ _ ?_
                    refine c_condF rfl rfl ?_
                    refine wp_skip ?_
                    refine hK133 _ _ ?_
                    refine wp_seq_k (fun K166 hK166 => ?_)
                    refine wp_region_lit ?_
                    refine l_q rfl rfl (q_move rfl) ?_
                    refine l_q rfl rfl (q_moveS rfl) ?_
                    refine l_q rfl rfl (q_moveI rfl) ?_
                    refine l_q rfl rfl (q_ixG (e := 5) (m := 1) (j := i) rfl rfl (by kernel_rfl) (by kernel_rfl) (by first | rfl | omega) (by omega) hG (by rw [bv_len]; first | omega | (simp only [List.length_append, List.length_map, List.length_cons, List.length_nil, List.length_take, List.length_drop, List.length_set] <;> omega))) ?_
                    refine l_q rfl rfl (q_load1 rfl (by kernel_rfl) (SlG.cell (hG.mono hS128.base) (Gle.refl _) (at1 (bv_at hx135)))) ?_
                    refine l_e rfl (fun K hK => ?_)
                    refine e_buildSlice1 (e := 5) (zv := .int .u8 0) (xs := [.tmp 92]) hS128 (by kernel_rfl) (by kernel_rfl) (by kernel_rfl) rfl rfl rfl rfl (allone (by repeat' (first | exact trivial | refine ⟨by first | rfl | assumption, ?_⟩))) rfl (fun b167 w167 (hS167 : St _ _ [.blk b167 (.cells #[.int .u8 ((x135 : Nat) : Int)] 5), .blk b5 (.cells #[.int .i64 ((x4 : Nat) : Int), .int .i64 (0 : Int), .string (bs [])] 31), .blk b2 (.cells #[.int .i64 (0 : Int), .int .i64 (0 : Int), .string (bs [])] 31)] _) => ?_)
                    clear hS128
                    have hS167o : St _ _ [.ow 5 1 (some ⟨b167, 0, none⟩) 1 1 (bv [x135]), .blk b5 (.cells #[.int .i64 ((x4 : Nat) : Int), .int .i64 (0 : Int), .string (bs [])] 31), .blk b2 (.cells #[.int .i64 (0 : Int), .int .i64 (0 : Int), .string (bs [])] 31)] _ := hS167.blkOw' (i := 0) (m := 1) (size := 1) (xs := bv [x135]) rfl rfl rfl (by decide); clear hS167
                    refine hK _ _ ?_; clear hK K
                    refine l_q rfl rfl (q_convBS (l := [x135]) rfl (hS167o.owG (i := 0) rfl) (by first | omega | (simp only [List.length_append, List.length_map, List.length_cons, List.length_nil, List.length_take, List.length_drop, List.length_set] <;> omega)) (by kernel_rfl) (by kernel_rfl)) ?_
                    refine l_q rfl rfl (q_str_add (l := s) (m := [x135]) rfl rfl (by first | omega | (simp only [List.length_append, List.length_map, List.length_cons, List.length_nil, List.length_take, List.length_drop, List.length_set] <;> omega))) ?_
                    refine l_q rfl rfl (q_assign rfl) ?_
                    refine l_nil ?_
                    refine hK166 _ _ ?_
                    refine wp_seq_k (fun K168 hK168 => ?_)
                    refine wp_region_lit ?_
                    refine l_q rfl rfl (q_moveS rfl) ?_
                    refine l_q rfl rfl (q_moveI rfl) ?_
                    refine l_q rfl rfl (q_ixG (e := 5) (m := 1) (j := i) rfl rfl (by kernel_rfl) (by kernel_rfl) (by first | rfl | omega) (by omega) hG (by rw [bv_len]; first | omega | (simp only [List.length_append, List.length_map, List.length_cons, List.length_nil, List.length_take, List.length_drop, List.length_set] <;> omega))) ?_
                    refine l_q rfl rfl (q_load1 rfl (by kernel_rfl) (SlG.cell (hG.mono hS167o.base) (Gle.refl _) (at1 (bv_at hx135)))) ?_
                    refine l_q rfl rfl (q_eql rfl rfl) ?_
                    refine l_nil ?_
                    refine hK168 _ _ ?_
                    refine c_cond rfl (fun hc169 => ?_) (fun hc169 => ?_)
                    ·
                      have hc169b := hc169
                      try simp only [decide_eq_true_eq, decide_eq_false_iff_not, Bool.not_eq_true', Bool.not_eq_false', Bool.and_eq_true, Bool.or_eq_true, Int.not_lt, Int.not_le, ne_eq, Decidable.not_not] at hc169
                      refine wp_region_lit ?_
                      refine l_q rfl rfl (q_moveI rfl) ?_
                      refine l_q rfl rfl (q_addx rfl rfl (by first | decide | omega) (by first | decide | omega)) ?_
                      refine l_q rfl rfl (q_assignI rfl) ?_
                      refine l_nil ?_
                      refine hK132 _ _ ?_
                      refine wp_region_lit ?_
                      refine l_q rfl rfl (q_moveI rfl) ?_
                      refine l_q rfl rfl (q_addx rfl rfl (by first | decide | omega) (by first | decide | omega)) ?_
                      refine l_q rfl rfl (q_assignI rfl) ?_
                      refine l_nil ?_
                      have hS170 := hS167o.fr2; clear hS167o
                      have hS171 := hS170.fr2; clear hS170
                      have hS172 : St _ _ [.blk b5 (.cells #[.int .i64 ((x4 : Nat) : Int), .int .i64 (0 : Int), .string (bs [])] 31), .blk b2 (.cells #[.int .i64 (0 : Int), .int .i64 (0 : Int), .string (bs [])] 31)] _ := hS171.only 2; clear hS171
                      refine hK128 _ _ (came (⟨(s ++ [x135]), (i + 1 + 1)⟩) (by repeat' (first | exact Agree.refl _ _ | refine Agree.up ?_ rfl | refine Agree.hav2 ?_ rfl | refine Agree.ups2 ?_ rfl)) (by repeat' (first | exact trivial | refine ⟨by first | exact int_succ _ | (exact congrArg (Value.int .i64) (by omega)) | rfl, ?_⟩)) ?_)
                      exact ⟨⟨hS172, (by show 1 ≤ (i + 1 + 1); omega), (by show (i + 1 + 1) ≤ b.length + 1; omega), (by show (s ++ [x135]).length ≤ (i + 1 + 1); rw [List.length_append, List.length_singleton]; omega), (hs.app (fun y hy => by rw [List.mem_singleton] at hy; subst hy; assumption)), (TI.step hti hx135 (by rintro ⟨h0, h1⟩; first | omega | (rw [List.getElem?_eq_none (by omega)] at h1; cases h1))).1 (by omega)⟩, by (show b.length + 1 - (i + 1 + 1) < b.length + 1 - i); omega⟩
                    ·
                      have hc169b := hc169
                      try simp only [decide_eq_true_eq, decide_eq_false_iff_not, Bool.not_eq_true', Bool.not_eq_false', Bool.and_eq_true, Bool.or_eq_true, Int.not_lt, Int.not_le, ne_eq, Decidable.not_not] at hc169
                      refine wp_skip ?_
                      refine hK132 _ _ ?_
                      refine wp_region_lit ?_
                      refine l_q rfl rfl (q_moveI rfl) ?_
                      refine l_q rfl rfl (q_addx rfl rfl (by first | decide | omega) (by first | decide | omega)) ?_
                      refine l_q rfl rfl (q_assignI rfl) ?_
                      refine l_nil ?_
                      have hS173 := hS167o.fr2; clear hS167o
                      have hS174 := hS173.fr2; clear hS173
                      have hS175 : St _ _ [.blk b5 (.cells #[.int .i64 ((x4 : Nat) : Int), .int .i64 (0 : Int), .string (bs [])] 31), .blk b2 (.cells #[.int .i64 (0 : Int), .int .i64 (0 : Int), .string (bs [])] 31)] _ := hS174.only 2; clear hS174
                      refine hK128 _ _ (came (⟨(s ++ [x135]), (i + 1)⟩) (by repeat' (first | exact Agree.refl _ _ | refine Agree.up ?_ rfl | refine Agree.hav2 ?_ rfl | refine Agree.ups2 ?_ rfl)) (by repeat' (first | exact trivial | refine ⟨by first | exact int_succ _ | (exact congrArg (Value.int .i64) (by omega)) | rfl, ?_⟩)) ?_)
                      exact ⟨⟨hS175, (by show 1 ≤ (i + 1); omega), (by show (i + 1) ≤ b.length + 1; omega), (by show (s ++ [x135]).length ≤ (i + 1); rw [List.length_append, List.length_singleton]; omega), (hs.app (fun y hy => by rw [List.mem_singleton] at hy; subst hy; assumption)), (TI.step hti hx135 (by rintro ⟨h0, h1⟩; first | omega | (rw [List.getElem?_eq_none (by omega)] at h1; cases h1))).2 (by omega)⟩, by (show b.length + 1 - (i + 1) < b.length + 1 - i); omega⟩
                ·
                  have hc131b := hc131
                  try simp only [decide_eq_true_eq, decide_eq_false_iff_not, Bool.not_eq_true', Bool.not_eq_false', Bool.and_eq_true, Bool.or_eq_true, Int.not_lt, Int.not_le, ne_eq, Decidable.not_not] at hc131
                  refine wp_exit ?_
                  refine hK126 _ _ ?_
                  refine wp_seq_k (fun K176 hK176 => ?_)
                  refine wp_region_lit ?_
                  refine l_q rfl rfl (q_loadA (m := 3) rfl (by kernel_rfl) (by kernel_rfl) (hS128.blk (i := 0) rfl) rfl rfl) ?_
                  refine l_e rfl (fun K hK => ?_)
                  refine e_storeA hS128 rfl rfl (by kernel_rfl) (by repeat' (first | exact trivial | refine ⟨by first | rfl | assumption | exact one_if (by assumption), ?_⟩)) (i := 1) rfl rfl (fun w177 (hS177 : St _ _ [.blk b5 (.cells #[.int .i64 ((x4 : Nat) : Int), .int .i64 (0 : Int), .string (bs [])] 31), .blk b2 (.cells #[.int .i64 ((x4 : Nat) : Int), .int .i64 (0 : Int), .string (bs [])] 31)] _) => ?_)
                  clear hS128
                  refine hK _ _ ?_; clear hK K
                  refine l_q rfl rfl (q_assignI rfl) ?_
                  refine l_nil ?_
                  refine hK176 _ _ ?_
                  refine wp_ret ?_
                  refine c_retCT (m := 3) rfl (by kernel_rfl) (by kernel_rfl) rfl (hS177.blk (i := 1) rfl) rfl rfl ?_
                  exact ⟨_, rfl, RTakeP.mk (a := (((x4 : Nat) : Int), (0 : Int), [])) (n := 0) (vok_mk Bytes.nil ⟨by omega, by omega⟩ ⟨by omega, by omega⟩) (by omega) (rt_no (rt4n hti hx4 (by omega) (by omega))), hS177.drop⟩
            ·
              have hc124b := hc124
              try simp only [decide_eq_true_eq, decide_eq_false_iff_not, Bool.not_eq_true', Bool.not_eq_false', Bool.and_eq_true, Bool.or_eq_true, Int.not_lt, Int.not_le, ne_eq, Decidable.not_not] at hc124
              refine wp_seq_k (fun K178 hK178 => ?_)
              refine wp_region_lit ?_
              refine l_q rfl rfl (q_loadA (m := 3) rfl (by kernel_rfl) (by kernel_rfl) (hS6.blk (i := 0) rfl) rfl rfl) ?_
              refine l_e rfl (fun K hK => ?_)
              refine e_storeA hS6 rfl rfl (by kernel_rfl) (by repeat' (first | exact trivial | refine ⟨by first | rfl | assumption | exact one_if (by assumption), ?_⟩)) (i := 1) rfl rfl (fun w179 (hS179 : St _ _ [.blk b5 (.cells #[.int .i64 ((x4 : Nat) : Int), .int .i64 (0 : Int), .string (bs [])] 31), .blk b2 (.cells #[.int .i64 ((x4 : Nat) : Int), .int .i64 (0 : Int), .string (bs [])] 31)] _) => ?_)
              clear hS6
              refine hK _ _ ?_; clear hK K
              refine l_q rfl rfl (q_assignI rfl) ?_
              refine l_nil ?_
              refine hK178 _ _ ?_
              refine wp_ret ?_
              refine c_retCT (m := 3) rfl (by kernel_rfl) (by kernel_rfl) rfl (hS179.blk (i := 1) rfl) rfl rfl ?_
              exact ⟨_, rfl, RTakeP.mk (a := (((x4 : Nat) : Int), (0 : Int), [])) (n := 0) (vok_mk Bytes.nil ⟨by omega, by omega⟩ ⟨by omega, by omega⟩) (by omega) (rt_no (tk6n hx4 (by refine ⟨?_, ?_, ?_, ?_, ?_, ?_⟩ <;> omega))), hS179.drop⟩

end Go.Proofs.YtcllmnepkglabaaDoor
