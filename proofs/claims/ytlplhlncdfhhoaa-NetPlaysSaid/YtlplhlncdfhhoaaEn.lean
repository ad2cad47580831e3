/- NetPlays. -/
import Derived.Test.YtlplhlncdfhhoaaEo
import Derived.Test.YtlplhlncdfhhoaaH
set_option linter.unusedVariables false
set_option linter.unusedSimpArgs false
namespace Go.Proofs.Ytlplhlncdfhhoaa
open Go.RowKit
theorem lsame_t (a b : Lr) (n m : Nat) (hn : a.nd.length = n) (hm : b.nd.length = m) (hnb : n ≤ 2000000) (hmb : m ≤ 2000000) (aa ab : Option Addr) (ca cb : Nat) (w : World) (hG : SlG (hw w) aa (iv a.nd)) (hG2 : SlG (hw w) ab (iv b.nd)) (hab : a = b) :
    Calls Try.prog 17 #[.agg #[.int .i64 a.k, .int .i64 a.f, .int .i64 a.t, .int .i64 a.x, .slice aa n ca], .agg #[.int .i64 b.k, .int .i64 b.f, .int .i64 b.t, .int .i64 b.x, .slice ab m cb]] w (PostR w fun v => v = .bool true) :=
  (lsame_ok a b n m hn hm hnb hmb aa ab ca cb w hG hG2).mono fun _ _ ⟨v, he, hP, hS⟩ => ⟨v, he, hP.trans (by rw [same_self hab]), hS⟩
theorem samei_t (a b : List Int) (n m : Nat) (hn : a.length = n) (hm : b.length = m) (hnb : n ≤ 2000000) (hmb : m ≤ 2000000) (aa ab : Option Addr) (ca cb : Nat) (w : World) (hG : SlG (hw w) aa (iv a)) (hG2 : SlG (hw w) ab (iv b)) (hab : b = a) :
    Calls Try.prog 25 #[.slice aa n ca, .slice ab m cb] w (PostR w fun v => v = .bool true) :=
  (samei_ok a b n m hn hm hnb hmb aa ab ca cb w hG hG2).mono fun _ _ ⟨v, he, hP, hS⟩ => ⟨v, he, hP.trans (by rw [hab]; exact congrArg Value.bool (decide_eq_true rfl)), hS⟩
theorem rf_or {W : List Wy} {s : Nat} (hn : NumOk (absW W) s) (n : Int) : (∃ A q B, W = A ++ q :: B ∧ q.n = n ∧ ∀ x ∈ A, x.n ≠ n) ∨ ∀ q ∈ W, q.n ≠ n := by
  rcases wy_or W n with ⟨l, hl⟩ | h
  · obtain ⟨A, q, B, h1, h2, h3, h4⟩ := mid_num hn hl; exact .inl ⟨A, q, B, h1, h2, h4⟩
  · exact .inr h
theorem wy_at {W A B : List Wy} {q : Wy} (h : W = A ++ q :: B) : W[A.length]? = some q := by rw [h, List.getElem?_append_right (Nat.le_refl _), Nat.sub_self]; rfl
theorem wy_len {W A B : List Wy} {q : Wy} (h : W = A ++ q :: B) : A.length < W.length := by rw [h, List.length_append, List.length_cons]; omega
attribute [local irreducible] Oper.wp Sem.run Code.wp wpList wpAnyO callFunc execOp Calls
attribute [local irreducible] toU short rencs renc rowE encRow rightB zig unzig decRw rightL risB lastN bitsOf nodesTo encL encLE sameL snd numsW sameI toOf badT tkv ls twN

set_option maxHeartbeats 4000000 in
set_option maxRecDepth 100000 in
theorem netPlays_ok (sc : List A12) (sa : Option Addr) (cp : Nat) (node : Int) (w : World) (hsG : SlG (hw w) sa (List.flatMap ac12 sc)) (hsB : ∀ a ∈ sc, SlG (hw w) a.ad (iv a.l.nd)) : Calls Try.prog 7 #[.slice sa sc.length cp, .int .i64 node] w (PostR w fun v => v = .bool true) := by
 have hS := St.start w
 refine c_enter Try.func7 rfl rfl rfl ?_
 refine wp_seq_k (fun K1 hK1 => ?_)
 refine wp_region_lit ?_
 refine l_q rfl rfl (q_assignB rfl) ?_
 refine l_nil ?_
 refine hK1 _ _ ?_
 refine wp_seq_k (fun K2 hK2 => ?_)
 refine wp_region_lit ?_
 refine l_e rfl (fun K hK => ?_)
 refine e_call (by kernel_rfl) (nnew_ok _) rfl (after_N hS (fun v3 G3 w3 hv3 hS3 => ?_))
 clear hS
 obtain ⟨k, mb, rfl, rfl⟩ := hv3
 have hS4 : St _ _ [.blk k (.cells #[.map (some mb), .int .i64 ((0 : Nat) : Int), .int .i64 ((0 : Nat) : Int), .int .i64 ((0 : Nat) : Int)] 60), .mp (.int .i64) mb (List.map nc [])] _ := hS3; clear hS3
 have hS5 := hS4.fz0; clear hS4
 have hS6 := hS5.fr2; clear hS5
 have hS7 := hS6.fr2; clear hS6
 obtain ⟨L0, hL0⟩ : ∃ L : List (Int × Ent), L = [] := ⟨[], rfl⟩
 rw [← hL0] at hS7
 have hE0 : EOk (fun _ => none) L0 := by rw [hL0]; exact EOk.nil
 have hn0 : NumOk (absN L0) 0 := by rw [hL0]; exact NumOk.nil 0
 have hl0 : L0.length = 0 := by rw [hL0]; rfl
 refine hK _ _ ?_; clear hK K
 refine l_q rfl rfl (q_assignP rfl) ?_
 refine l_nil ?_
 refine hK2 _ _ ?_
 refine wp_seq_k (fun K8 hK8 => ?_)
 refine wp_region_lit ?_
 refine l_q rfl rfl (q_build (ps := [(0, 1), (1, 1), (2, 1), (3, 1)]) (zv := .agg #[.slice none 0 0, .int .i64 0, .int .i64 0, .int .i64 0]) (by kernel_rfl) (by kernel_rfl) rfl (by repeat' (first | exact trivial | refine ⟨fun _ => by first | rfl | assumption | exact one_if (by assumption), ?_⟩ | refine ⟨fun ⟨_, h⟩ => by simp at h, ?_⟩)) rfl) ?_
 refine l_e rfl (fun K hK => ?_)
 refine e_boxA hS7 rfl (fun b9 w9 (hS9 : St _ _ [.blk b9 (.cells #[.slice none 0 0, .int .i64 (0 : Int), .int .i64 (0 : Int), .int .i64 (0 : Int)] 51), _, .mp (.int .i64) mb (List.map nc L0), .fz (fun _ => none)] _) => ?_)
 clear hS7
 refine hK _ _ ?_; clear hK K
 refine l_q rfl rfl (q_assignP rfl) ?_
 refine l_nil ?_
 refine hK8 _ _ ?_
 refine wp_seq_k (fun K10 hK10 => ?_)
 refine wp_seq_k (fun K11 hK11 => ?_)
 refine wp_region_lit ?_
 refine l_q rfl rfl (q_moveP rfl) ?_
 refine l_q rfl rfl (q_peq rfl (by kernel_rfl)) ?_
 refine l_nil ?_
 refine hK11 _ _ ?_
 refine c_condF rfl rfl ?_
 refine wp_skip ?_
 refine hK10 _ _ ?_
 refine wp_seq_k (fun K13 hK13 => ?_)
 refine wp_seq_k (fun K14 hK14 => ?_)
 refine wp_region_lit ?_
 refine l_q rfl rfl (q_assignI rfl) ?_
 refine l_nil ?_
 refine hK14 _ _ ?_
 refine wp_block ?_
 have hS15 := hS9.ow_nil 54 6; clear hS9
 have hS16 := hS15.fz0; clear hS15
 have hS17 := hS16.fr1; clear hS16
 have hS18 := hS17.fr2; clear hS17
 have hS19 := hS18.fr5; clear hS18
 have hS20 := hS19.fr5; clear hS19
 have hS21 := hS20.fr5; clear hS20
 refine c_loop (τ := Nat × Nat × Nat × Nat × (List (Int × Ent)) × Gh × (List Wy) × (Option Addr) × Nat × Gh) [(4, 4), (7, 33), (39, 251)] (fun x => (fun (i : Nat) (s : Nat) (t : Nat) (o : Nat) (L : List (Int × Ent)) (g : Gh) (W : List Wy) (ra : Option Addr) (rc : Nat) (g2 : Gh) => [(7, .int .i64 (i : Int))]) x.1 x.2.1 x.2.2.1 x.2.2.2.1 x.2.2.2.2.1 x.2.2.2.2.2.1 x.2.2.2.2.2.2.1 x.2.2.2.2.2.2.2.1 x.2.2.2.2.2.2.2.2.1 x.2.2.2.2.2.2.2.2.2) (fun x w' => (fun (i : Nat) (s : Nat) (t : Nat) (o : Nat) (L : List (Int × Ent)) (g : Gh) (W : List Wy) (ra : Option Addr) (rc : Nat) (g2 : Gh) => St w (fun _ => False) [.blk k (.cells #[.map (some mb), .int .i64 (s : Int), .int .i64 (t : Int), .int .i64 (o : Int)] 60), .mp (.int .i64) mb (List.map nc L), .fz g, .blk b9 (.cells #[.slice ra W.length rc, .int .i64 (s : Int), .int .i64 (t : Int), .int .i64 (o : Int)] 51), .ow 54 6 ra W.length rc (List.flatMap wc W), .fz g2] w' ∧ i ≤ 80 ∧ s ≤ i ∧ s = t + o + L.length ∧ EOk g L ∧ NumOk (absN L) s ∧ WOk g2 W ∧ absW W = absN L) x.1 x.2.1 x.2.2.1 x.2.2.2.1 x.2.2.2.2.1 x.2.2.2.2.2.1 x.2.2.2.2.2.2.1 x.2.2.2.2.2.2.2.1 x.2.2.2.2.2.2.2.2.1 x.2.2.2.2.2.2.2.2.2) (fun x => (fun (i : Nat) (s : Nat) (t : Nat) (o : Nat) (L : List (Int × Ent)) (g : Gh) (W : List Wy) (ra : Option Addr) (rc : Nat) (g2 : Gh) => 80 - i) x.1 x.2.1 x.2.2.1 x.2.2.2.1 x.2.2.2.2.1 x.2.2.2.2.2.1 x.2.2.2.2.2.2.1 x.2.2.2.2.2.2.2.1 x.2.2.2.2.2.2.2.2.1 x.2.2.2.2.2.2.2.2.2) (⟨0, 0, 0, 0, L0, (fun _ => none), [], none, 0, (fun _ => none)⟩) ?_ (by repeat' (first | exact trivial | refine ⟨by first | rfl | exact int_succ _ | assumption, ?_⟩)) (fun x22 j22 w22 hJ22 K22 hK22 => ?_)
 ·
  exact ⟨hS21, (by show 0 ≤ 80; omega), (by show 0 ≤ 0; omega), (by show 0 = 0 + 0 + L0.length; omega), hE0, hn0, WOk.nil, (by rw [hL0]; rfl)⟩
 ·
  obtain ⟨i, s, t, o, L, g, W, ra, rc, g2⟩ := x22
  obtain ⟨hS22, hi, hsi, hsum, hE, hn, hW, heq⟩ := hJ22
  try dsimp only at hS22 hi hsi hsum hE hn hW heq ⊢
  have hwl : W.length = L.length := by rw [← absW_len, heq, absN_len]
  refine wp_seq_k (fun K23 hK23 => ?_)
  refine wp_seq_k (fun K24 hK24 => ?_)
  refine wp_region_lit ?_
  refine l_q rfl rfl (q_moveI rfl) ?_
  refine l_q rfl rfl (q_moveS rfl) ?_
  refine l_q rfl rfl (q_lenSl (e := 43) rfl (by kernel_rfl)) ?_
  refine l_q rfl rfl (q_lss rfl rfl) ?_
  refine l_q rfl rfl (q_moveB rfl) ?_
  refine g_splitL (t := 43) rfl (fun hg25 => ?_) (fun hg25 => ?_)
  ·
   have hg25b := hg25
   try simp only [decide_eq_true_eq, decide_eq_false_iff_not, Bool.not_eq_true', Bool.not_eq_false', Bool.and_eq_true, Bool.or_eq_true, Int.not_lt, Int.not_le, ne_eq, Decidable.not_not] at hg25
   refine l_on rfl rfl hg25b ?_
   refine l_q rfl rfl (q_moveI rfl) ?_
   refine l_on rfl rfl hg25b ?_
   refine l_q rfl rfl (q_lss rfl rfl) ?_
   refine l_q rfl rfl (q_pickT rfl hg25b rfl) ?_
   refine l_nil ?_
   refine hK24 _ _ ?_
   refine c_cond rfl (fun hc26 => ?_) (fun hc26 => ?_)
   ·
    have hc26b := hc26
    try simp only [decide_eq_true_eq, decide_eq_false_iff_not, Bool.not_eq_true', Bool.not_eq_false', Bool.and_eq_true, Bool.or_eq_true, Int.not_lt, Int.not_le, ne_eq, Decidable.not_not] at hc26
    refine wp_skip ?_
    refine hK23 _ _ ?_
    refine wp_seq_k (fun K27 hK27 => ?_)
    refine wp_block ?_
    refine wp_seq_k (fun K28 hK28 => ?_)
    refine wp_region_lit ?_
    refine l_q rfl rfl (q_moveS rfl) ?_
    refine l_q rfl rfl (q_moveI rfl) ?_
    refine l_q rfl rfl (q_ixG (e := 43) (m := 7) (j := i) rfl rfl (by kernel_rfl) (by kernel_rfl) (by first | rfl | omega) (by omega) hsG (by rw [rows_len (c := ac12) (m := 7) (fun _ => rfl)]; first | omega | (simp only [List.length_append, List.length_map, List.length_cons, List.length_nil, List.length_take, List.length_drop, List.length_set] <;> omega))) ?_
    obtain ⟨x29, hx29⟩ : ∃ x, (sc)[i]? = some x := ⟨_, List.getElem?_eq_getElem (by first | omega | (simp only [List.length_append, List.length_map, List.length_cons, List.length_nil, List.length_take, List.length_drop, List.length_set] <;> omega) | (simp <;> omega))⟩
    refine l_q rfl rfl (q_loadGA (m := 7) rfl (by kernel_rfl) (by kernel_rfl) (hsG.mono hS22.base) (row_take hx29 (c := ac12) (m := 7) (fun _ => rfl)) rfl (by decide)) ?_
    refine l_e rfl (fun K hK => ?_)
    refine e_alloc (zv := .agg #[.int .i64 0, .int .i64 0, .int .i64 0, .int .i64 0, .int .i64 0, .int .i64 0, .slice none 0 0]) hS22 (by kernel_rfl) (fun b30 w30 (hS30 : St _ _ [.blk b30 (.cells #[.int .i64 (0 : Int), .int .i64 (0 : Int), .int .i64 (0 : Int), .int .i64 (0 : Int), .int .i64 (0 : Int), .int .i64 (0 : Int), .slice none 0 0] 43), .blk k (.cells #[.map (some mb), .int .i64 (s : Int), .int .i64 (t : Int), .int .i64 (o : Int)] 60), .mp (.int .i64) mb (List.map nc L), .fz g, .blk b9 (.cells #[.slice ra W.length rc, .int .i64 (s : Int), .int .i64 (t : Int), .int .i64 (o : Int)] 51), .ow 54 6 ra W.length rc (List.flatMap wc W), .fz g2] _) => ?_)
    clear hS22
    refine hK _ _ ?_; clear hK K
    refine l_e rfl (fun K hK => ?_)
    refine e_storeA hS30 rfl rfl (by kernel_rfl) (by repeat' (first | exact trivial | refine ⟨by first | rfl | assumption | exact one_if (by assumption), ?_⟩)) (i := 0) rfl rfl (fun w31 (hS31 : St _ _ [.blk b30 (.cells #[.int .i64 x29.k, .int .i64 x29.n, .int .i64 x29.l.k, .int .i64 x29.l.f, .int .i64 x29.l.t, .int .i64 x29.l.x, .slice x29.ad x29.l.nd.length x29.cap] 43), _, _, .fz g, _, _, .fz g2] _) => ?_)
    clear hS30
    refine hK _ _ ?_; clear hK K
    refine l_nil ?_
    refine hK28 _ _ ?_
    refine wp_seq_k (fun K32 hK32 => ?_)
    refine wp_seq_k (fun K33 hK33 => ?_)
    refine wp_region_lit ?_
    refine l_q rfl rfl (q_fieldAddr (ft := 25) (o := 2) rfl (by kernel_rfl)) ?_
    refine l_q rfl rfl (q_fieldAddr (ft := 23) (o := 4) rfl (by kernel_rfl)) ?_
    refine l_q rfl rfl (q_load1 rfl (by kernel_rfl) (hS31.cell (i := 0) rfl rfl)) ?_
    refine l_q rfl rfl (q_lenSl (e := 3) rfl (by kernel_rfl)) ?_
    refine l_q rfl rfl (q_gtr rfl rfl) ?_
    refine l_nil ?_
    refine hK33 _ _ ?_
    refine c_cond rfl (fun hc34 => ?_) (fun hc34 => ?_)
    ·
     have hc34b := hc34
     try simp only [decide_eq_true_eq, decide_eq_false_iff_not, Bool.not_eq_true', Bool.not_eq_false', Bool.and_eq_true, Bool.or_eq_true, Int.not_lt, Int.not_le, ne_eq, Decidable.not_not] at hc34
     refine wp_exit ?_
     refine hK27 _ _ ?_
     refine wp_region_lit ?_
     refine l_q rfl rfl (q_moveI rfl) ?_
     refine l_q rfl rfl (q_addx rfl rfl (by first | decide | omega) (by first | decide | omega)) ?_
     refine l_q rfl rfl (q_assignI rfl) ?_
     refine l_nil ?_
     have hS35 := hS31.fr6; clear hS31
     have hS36 := hS35.fr6; clear hS35
     have hS37 := hS36.fr6; clear hS36
     have hS38 := hS37.fr6; clear hS37
     have hS39 := hS38.fr6; clear hS38
     have hS40 := hS39.fr6; clear hS39
     have hS41 : St _ _ [_, _, .fz g, _, _, .fz g2] _ := hS40.only 6; clear hS40
     refine hK22 _ _ (came (⟨(i + 1), s, t, o, L, g, W, ra, rc, g2⟩) (by repeat' (first | exact Agree.refl _ _ | refine Agree.up ?_ rfl | refine Agree.hav2 ?_ rfl | refine Agree.ups2 ?_ rfl)) (by repeat' (first | exact trivial | refine ⟨by first | rfl | exact int_succ _ | assumption, ?_⟩)) ?_)
     exact ⟨⟨hS41, (by show i + 1 ≤ 80; omega), (by show s ≤ i + 1; omega), (by show s = t + o + List.length L; omega), hE, hn, hW, heq⟩, by (show 80 - (i + 1) < 80 - i); omega⟩
    ·
     have hc34b := hc34
     try simp only [decide_eq_true_eq, decide_eq_false_iff_not, Bool.not_eq_true', Bool.not_eq_false', Bool.and_eq_true, Bool.or_eq_true, Int.not_lt, Int.not_le, ne_eq, Decidable.not_not] at hc34
     refine wp_skip ?_
     refine hK32 _ _ ?_
     refine wp_seq_k (fun K42 hK42 => ?_)
     refine wp_region_lit ?_
     refine l_q rfl rfl (q_assignB rfl) ?_
     refine l_nil ?_
     refine hK42 _ _ ?_
     refine c_cut (τ := Nat × Nat × Nat × (List (Int × Ent)) × Gh × (List Wy) × (Option Addr) × Nat × Gh) [(9, 28), (58, 195)] (fun x => (fun (s1 : Nat) (t1 : Nat) (o1 : Nat) (L1 : List (Int × Ent)) (g1 : Gh) (W1 : List Wy) (ra1 : Option Addr) (rc1 : Nat) (gr1 : Gh) => [(9, .bool true)]) x.1 x.2.1 x.2.2.1 x.2.2.2.1 x.2.2.2.2.1 x.2.2.2.2.2.1 x.2.2.2.2.2.2.1 x.2.2.2.2.2.2.2.1 x.2.2.2.2.2.2.2.2) (fun x w' => (fun (s1 : Nat) (t1 : Nat) (o1 : Nat) (L1 : List (Int × Ent)) (g1 : Gh) (W1 : List Wy) (ra1 : Option Addr) (rc1 : Nat) (gr1 : Gh) => St w (fun _ => False) [.blk k (.cells #[.map (some mb), .int .i64 (s1 : Int), .int .i64 (t1 : Int), .int .i64 (o1 : Int)] 60), .mp (.int .i64) mb (List.map nc L1), .fz g1, .blk b9 (.cells #[.slice ra1 W1.length rc1, .int .i64 (s1 : Int), .int .i64 (t1 : Int), .int .i64 (o1 : Int)] 51), .ow 54 6 ra1 W1.length rc1 (List.flatMap wc W1), .fz gr1] w' ∧ s1 ≤ i + 1 ∧ s1 = t1 + o1 + L1.length ∧ EOk g1 L1 ∧ NumOk (absN L1) s1 ∧ WOk gr1 W1 ∧ absW W1 = absN L1) x.1 x.2.1 x.2.2.1 x.2.2.2.1 x.2.2.2.2.1 x.2.2.2.2.2.1 x.2.2.2.2.2.2.1 x.2.2.2.2.2.2.2.1 x.2.2.2.2.2.2.2.2) (fun K44 hK44 => ?_) (fun x44 j44 w44 hJ44 => ?_)
     ·
      refine wp_seq_k (fun K45 hK45 => ?_)
      refine wp_region_lit ?_
      refine l_q rfl rfl (q_fieldAddr (ft := 3) (o := 0) rfl (by kernel_rfl)) ?_
      refine l_q rfl rfl (q_load1 rfl (by kernel_rfl) (hS31.cell (i := 0) rfl rfl)) ?_
      refine l_nil ?_
      refine hK45 _ _ ?_
      refine wp_block ?_
      refine wp_seq_k (fun K46 hK46 => ?_)
      refine wp_region_lit ?_
      refine l_q rfl rfl (q_eql rfl rfl) ?_
      refine l_q rfl rfl (q_assignB rfl) ?_
      refine l_nil ?_
      refine hK46 _ _ ?_
      refine c_cond rfl (fun hc47 => ?_) (fun hc47 => ?_)
      ·
       have hc47b := hc47
       try simp only [decide_eq_true_eq, decide_eq_false_iff_not, Bool.not_eq_true', Bool.not_eq_false', Bool.and_eq_true, Bool.or_eq_true, Int.not_lt, Int.not_le, ne_eq, Decidable.not_not] at hc47
       refine wp_seq_k (fun K48 hK48 => ?_)
       refine wp_region_lit ?_
       refine l_q rfl rfl (q_fieldAddr (ft := 25) (o := 2) rfl (by kernel_rfl)) ?_
       refine l_q rfl rfl (q_loadA (m := 5) rfl (by kernel_rfl) (by kernel_rfl) (hS31.blk (i := 0) rfl) rfl rfl) ?_
       refine l_e rfl (fun K hK => ?_)
       refine e_alloc (zv := .agg #[.int .i64 0, .int .i64 0, .int .i64 0, .int .i64 0, .slice none 0 0]) hS31 (by kernel_rfl) (fun b49 w49 (hS49 : St _ _ [.blk b49 (.cells #[.int .i64 (0 : Int), .int .i64 (0 : Int), .int .i64 (0 : Int), .int .i64 (0 : Int), .slice none 0 0] 25), _, _, _, .fz g, _, _, .fz g2] _) => ?_)
       clear hS31
       refine hK _ _ ?_; clear hK K
       refine l_e rfl (fun K hK => ?_)
       refine e_storeA hS49 rfl rfl (by kernel_rfl) (by repeat' (first | exact trivial | refine ⟨by first | rfl | assumption | exact one_if (by assumption), ?_⟩)) (i := 0) rfl rfl (fun w50 (hS50 : St _ _ [.blk b49 (.cells #[.int .i64 x29.l.k, .int .i64 x29.l.f, .int .i64 x29.l.t, .int .i64 x29.l.x, .slice x29.ad x29.l.nd.length x29.cap] 25), _, _, _, .fz g, _, _, .fz g2] _) => ?_)
       clear hS49
       refine hK _ _ ?_; clear hK K
       refine l_nil ?_
       refine hK48 _ _ ?_
       refine wp_seq_k (fun K51 hK51 => ?_)
       refine wp_region_lit ?_
       refine l_e rfl (fun K hK => ?_)
       refine e_buildSlice1 (e := 3) (zv := .int .i64 0) (xs := []) hS50 (by kernel_rfl) (by kernel_rfl) (by kernel_rfl) rfl rfl rfl rfl ((by intro u hu; cases hu)) rfl (fun b52 w52 (hS52 : St _ _ [.blk b52 (.cells #[] 3), _, _, _, _, .fz g, _, _, .fz g2] _) => ?_)
       clear hS50
       have hS52o : St _ _ [.ow 3 1 (some ⟨b52, 0, none⟩) 0 0 (iv []), _, _, _, _, .fz g, _, _, .fz g2] _ := hS52.blkOw' (i := 0) (m := 0) (size := 1) (xs := iv []) rfl rfl rfl (by decide); clear hS52
       refine hK _ _ ?_; clear hK K
       refine l_q rfl rfl (q_fieldAddr (ft := 25) (o := 2) rfl (by kernel_rfl)) ?_
       refine l_q rfl rfl (q_fieldAddr (ft := 23) (o := 4) rfl (by kernel_rfl)) ?_
       refine l_q rfl rfl (q_load1 rfl (by kernel_rfl) (hS52o.cell (i := 2) rfl rfl)) ?_
       refine l_e rfl (fun K hK => ?_)
       refine e_app (e := 3) (size := 1) (bytes := 8) (i := 0) (m' := x29.l.nd.length) (by kernel_rfl) hS52o rfl rfl rfl (SlG.src (e := 3) (by kernel_rfl) ((hsB x29 (List.mem_of_getElem? hx29)).mono hS52o.base) (by first | (simp only [List.length_append, List.length_map, List.length_cons, List.length_nil, List.length_take, List.length_drop, List.length_set, Nat.mul_one]; done) | (simp only [List.length_append, List.length_map, List.length_cons, List.length_nil, List.length_take, List.length_drop, List.length_set]; omega) | rfl | (simp; done)) (by decide) (iv_one _)) (by first | omega | (simp only [List.length_append, List.length_map, List.length_cons, List.length_nil, List.length_take, List.length_drop, List.length_set] <;> omega) | (simp; done)) rfl (by first | omega | (simp only [maxLen, List.length_append, List.length_map, List.length_cons, List.length_nil, List.length_take, List.length_drop, List.length_set] <;> omega) | (simp only [maxLen]; omega)) (by first | omega | (simp only [List.length_append, List.length_map, List.length_cons, List.length_nil, List.length_take, List.length_drop, List.length_set] <;> omega)) (fun ad53 cp53 w53 (hS53 : St _ _ [.ow 3 1 ad53 x29.l.nd.length cp53 (iv x29.l.nd), _, _, _, _, .fz g, _, _, .fz g2] _) => ?_)
       clear hS52o
       refine hK _ _ ?_; clear hK K
       refine l_q rfl rfl (q_fieldAddr (ft := 23) (o := 4) rfl (by kernel_rfl)) ?_
       refine l_e rfl (fun K hK => ?_)
       refine e_store1 hS53 rfl rfl (by kernel_rfl) (by first | rfl | assumption) (i := 1) rfl rfl (fun w54 (hS54 : St _ _ [_, .blk b49 (.cells #[.int .i64 x29.l.k, .int .i64 x29.l.f, .int .i64 x29.l.t, .int .i64 x29.l.x, .slice ad53 x29.l.nd.length cp53] 25), _, _, _, .fz g, _, _, .fz g2] _) => ?_)
       clear hS53
       refine hK _ _ ?_; clear hK K
       refine l_nil ?_
       refine hK51 _ _ ?_
       refine wp_seq_k (fun K55 hK55 => ?_)
       refine wp_region_lit ?_
       refine l_q rfl rfl (q_moveP rfl) ?_
       refine l_q rfl rfl (q_loadA (m := 5) rfl (by kernel_rfl) (by kernel_rfl) (hS54.blk (i := 1) rfl) rfl rfl) ?_
       refine l_e rfl (fun K hK => ?_)
       have hS57 := hS54.fr5; clear hS54
       have hS58 := hS57.fr5; clear hS57
       have hS59 := hS58.fr5; clear hS58
       obtain ⟨g60, hg60, hG60⟩ := St.rogO (Γ1 := [_, _, _]) (i := 0) hS59 rfl
       refine e_call (by kernel_rfl) (send_any k mb s t o L g hE hn (by omega) x29.l x29.l.nd.length (by first | rfl | omega) (by omega) ad53 cp53 _ _ hg60 hG60 (St.begin (Γ := [_, _, _]) hS59)) rfl (after_M (Γ1 := [_, _, _]) hS59 (fun v56 G56 w56 hv56 hS56 => ?_))
       clear hS59
       obtain ⟨a56, b56, L56, s56, g56, rfl, rfl, hle56, hE56, hs56⟩ := hv56
       have hS61 : St _ _ [.blk k (.cells #[.map (some mb), .int .i64 (s56 : Int), .int .i64 (t : Int), .int .i64 (o : Int)] 60), .mp (.int .i64) mb (List.map nc L56), .fz g56, _, _, _, _, _, .fz g2] _ := hS56; clear hS56
       have hn56 := hn.snd' hs56
       have hgr56 := snd_grow hs56
       have hgl56 := hgr56.2.1; have hgs56 := hgr56.1; rw [absN_len, absN_len] at hgl56
       refine hK _ _ ?_; clear hK K
       refine l_q rfl rfl (q_move rfl) ?_
       refine l_q rfl rfl (q_extract rfl rfl) ?_
       refine l_q rfl rfl (q_extract rfl rfl) ?_
       refine l_q rfl rfl (q_assignI rfl) ?_
       refine l_q rfl rfl (q_assignI rfl) ?_
       refine l_nil ?_
       refine hK55 _ _ ?_
       refine wp_seq_k (fun K62 hK62 => ?_)
       refine wp_region_lit ?_
       refine l_q rfl rfl (q_moveP rfl) ?_
       refine l_q rfl rfl (q_fieldAddr (ft := 25) (o := 2) rfl (by kernel_rfl)) ?_
       refine l_q rfl rfl (q_loadA (m := 5) rfl (by kernel_rfl) (by kernel_rfl) (hS61.blk (i := 5) rfl) rfl rfl) ?_
       refine l_e rfl (fun K hK => ?_)
       have hS64 := hS61.fr8; clear hS61
       have hS65 := hS64.fr8; clear hS64
       have hS66 := hS65.fr8; clear hS65
       refine e_call (by kernel_rfl) (rsend_any b9 ra rc s t o W g2 hW (by omega) (by omega) x29.l x29.l.nd.length (by first | rfl | omega) (by omega) x29.ad x29.cap _ _ (St.rogB (Γ1 := [_, _, _]) hS66) (hsB x29 (List.mem_of_getElem? hx29)) (St.begin (Γ := [_, _, _]) hS66)) rfl (after_M (Γ1 := [_, _, _]) hS66 (fun v63 G63 w63 hv63 hS63 => ?_))
       clear hS66
       obtain ⟨a63, b63, W63, s63, g63, ra63, rc63, rfl, rfl, hle63, hW63, hs63⟩ := hv63
       have hS67 : St _ _ [.blk b9 (.cells #[.slice ra63 W63.length rc63, .int .i64 (s63 : Int), .int .i64 (t : Int), .int .i64 (o : Int)] 51), .ow 54 6 ra63 W63.length rc63 (List.flatMap wc W63), .fz g63, _, _, .fz g56, _, _, _] _ := hS63; clear hS63
       have hsr63 := hs63; rw [heq] at hsr63
       obtain ⟨ea63, eb63, eA63, es63⟩ := snd_val (l := x29.l) hs56 hsr63
       rw [← es63] at hS67
       have heq63 : absW W63 = absN L56 := eA63.symm
       have hwl63 : List.length W63 = List.length L56 := by rw [← absW_len, heq63, absN_len]
       refine hK _ _ ?_; clear hK K
       refine l_q rfl rfl (q_move rfl) ?_
       refine l_q rfl rfl (q_extract rfl rfl) ?_
       refine l_q rfl rfl (q_extract rfl rfl) ?_
       refine l_q rfl rfl (q_assignI rfl) ?_
       refine l_q rfl rfl (q_assignI rfl) ?_
       refine l_nil ?_
       refine hK62 _ _ ?_
       refine wp_seq_k (fun K68 hK68 => ?_)
       refine wp_region_lit ?_
       refine l_q rfl rfl (q_moveI rfl) ?_
       refine l_q rfl rfl (q_moveI rfl) ?_
       refine l_q rfl rfl (q_eql rfl rfl) ?_
       refine l_q rfl rfl (q_moveB rfl) ?_
       refine g_splitL (t := 86) rfl (fun hg69 => ?_) (fun hg69 => ?_)
       ·
        have hg69b := hg69
        try simp only [decide_eq_true_eq, decide_eq_false_iff_not, Bool.not_eq_true', Bool.not_eq_false', Bool.and_eq_true, Bool.or_eq_true, Int.not_lt, Int.not_le, ne_eq, Decidable.not_not] at hg69
        refine l_on rfl rfl hg69b ?_
        refine l_q rfl rfl (q_moveI rfl) ?_
        refine l_on rfl rfl hg69b ?_
        refine l_q rfl rfl (q_moveI rfl) ?_
        refine l_on rfl rfl hg69b ?_
        refine l_q rfl rfl (q_eql rfl rfl) ?_
        refine l_q rfl rfl (q_pickT rfl hg69b rfl) ?_
        refine l_q rfl rfl (q_assignB rfl) ?_
        refine l_nil ?_
        refine hK68 _ _ ?_
        refine wp_seq_k (fun K70 hK70 => ?_)
        refine wp_region_lit ?_
        refine l_q rfl rfl (q_assignI rfl) ?_
        refine l_nil ?_
        refine hK70 _ _ ?_
        refine wp_block ?_
        refine c_loop (τ := Nat × (List Int)) [(15, 15), (91, 101)] (fun x => (fun (j : Nat) (c : List Int) => [(15, .int .i64 (j : Int))]) x.1 x.2) (fun x w' => (fun (j : Nat) (c : List Int) => St w (fun _ => False) [.blk b9 (.cells #[.slice ra63 W63.length rc63, .int .i64 (s56 : Int), .int .i64 (t : Int), .int .i64 (o : Int)] 51), .ow 54 6 ra63 W63.length rc63 (List.flatMap wc W63), .fz g63, .blk k (.cells #[.map (some mb), .int .i64 (s56 : Int), .int .i64 (t : Int), .int .i64 (o : Int)] 60), .mp (.int .i64) mb (List.map nc L56), .fz g56, .ow 3 1 ad53 x29.l.nd.length cp53 (iv c), .blk b49 (.cells #[.int .i64 x29.l.k, .int .i64 x29.l.f, .int .i64 x29.l.t, .int .i64 x29.l.x, .slice ad53 x29.l.nd.length cp53] 25), .blk b30 (.cells #[.int .i64 x29.k, .int .i64 x29.n, .int .i64 x29.l.k, .int .i64 x29.l.f, .int .i64 x29.l.t, .int .i64 x29.l.x, .slice x29.ad x29.l.nd.length x29.cap] 43)] w' ∧ j ≤ x29.l.nd.length ∧ c.length = x29.l.nd.length) x.1 x.2) (fun x => (fun (j : Nat) (c : List Int) => x29.l.nd.length - j) x.1 x.2) (⟨0, x29.l.nd⟩) ?_ (by repeat' (first | exact trivial | refine ⟨by first | rfl | exact int_succ _ | assumption, ?_⟩)) (fun x71 j71 w71 hJ71 K71 hK71 => ?_)
        ·
         exact ⟨hS67, Nat.zero_le _, by simp⟩
        ·
         obtain ⟨j, c⟩ := x71
         obtain ⟨hS71, hj, hcl⟩ := hJ71
         try dsimp only at hS71 hj hcl ⊢
         refine wp_seq_k (fun K72 hK72 => ?_)
         refine wp_seq_k (fun K73 hK73 => ?_)
         refine wp_region_lit ?_
         refine l_q rfl rfl (q_moveI rfl) ?_
         refine l_q rfl rfl (q_fieldAddr (ft := 23) (o := 4) rfl (by kernel_rfl)) ?_
         refine l_q rfl rfl (q_load1 rfl (by kernel_rfl) (hS71.cell (i := 7) rfl rfl)) ?_
         refine l_q rfl rfl (q_lenSl (e := 3) rfl (by kernel_rfl)) ?_
         refine l_q rfl rfl (q_lss rfl rfl) ?_
         refine l_nil ?_
         refine hK73 _ _ ?_
         refine c_cond rfl (fun hc74 => ?_) (fun hc74 => ?_)
         ·
          have hc74b := hc74
          try simp only [decide_eq_true_eq, decide_eq_false_iff_not, Bool.not_eq_true', Bool.not_eq_false', Bool.and_eq_true, Bool.or_eq_true, Int.not_lt, Int.not_le, ne_eq, Decidable.not_not] at hc74
          refine wp_skip ?_
          refine hK72 _ _ ?_
          refine wp_seq_k (fun K75 hK75 => ?_)
          refine wp_block ?_
          refine wp_region_lit ?_
          refine l_q rfl rfl (q_fieldAddr (ft := 23) (o := 4) rfl (by kernel_rfl)) ?_
          refine l_q rfl rfl (q_load1 rfl (by kernel_rfl) (hS71.cell (i := 7) rfl rfl)) ?_
          refine l_q rfl rfl (q_moveI rfl) ?_
          refine l_q rfl rfl (q_ixG (e := 3) (m := 1) (j := j) rfl rfl (by kernel_rfl) (by kernel_rfl) (by first | rfl | omega) (by omega) (hS71.owG (i := 6) rfl) (by rw [iv_len]; first | omega | (simp only [List.length_append, List.length_map, List.length_cons, List.length_nil, List.length_take, List.length_drop, List.length_set] <;> omega))) ?_
          refine l_e rfl (fun K hK => ?_)
          refine e_stOw hS71 rfl rfl (by kernel_rfl) (by first | rfl | assumption) (i := 6) rfl (by omega) iv_set1 (fun w76 (hS76 : St _ _ [.blk b9 (.cells #[.slice ra63 W63.length rc63, .int .i64 (s56 : Int), .int .i64 (t : Int), .int .i64 (o : Int)] 51), _, .fz g63, _, _, .fz g56, .ow 3 1 ad53 x29.l.nd.length cp53 (iv (c.set j (99 : Int))), _, _] _) => ?_)
          clear hS71
          refine hK _ _ ?_; clear hK K
          refine l_nil ?_
          refine hK75 _ _ ?_
          refine wp_region_lit ?_
          refine l_q rfl rfl (q_moveI rfl) ?_
          refine l_q rfl rfl (q_addx rfl rfl (by first | decide | omega) (by first | decide | omega)) ?_
          refine l_q rfl rfl (q_assignI rfl) ?_
          refine l_nil ?_
          refine hK71 _ _ (came (⟨(j + 1), (c.set j (99 : Int))⟩) (by repeat' (first | exact Agree.refl _ _ | refine Agree.up ?_ rfl | refine Agree.hav2 ?_ rfl | refine Agree.ups2 ?_ rfl)) (by repeat' (first | exact trivial | refine ⟨by first | rfl | exact int_succ _ | assumption, ?_⟩)) ?_)
          exact ⟨⟨hS76, (by show j + 1 ≤ x29.l.nd.length; omega), (by simp; omega)⟩, by (show x29.l.nd.length - (j + 1) < x29.l.nd.length - j); omega⟩
         ·
          have hc74b := hc74
          try simp only [decide_eq_true_eq, decide_eq_false_iff_not, Bool.not_eq_true', Bool.not_eq_false', Bool.and_eq_true, Bool.or_eq_true, Int.not_lt, Int.not_le, ne_eq, Decidable.not_not] at hc74
          refine wp_exit ?_
          have hS77 := hS71.fr2; clear hS71
          have hS78 := hS77.fr2; clear hS77
          have hS79 := hS78.fr2; clear hS78
          have hS80 := hS79.fr5; clear hS79
          have hS81 := hS80.fr5; clear hS80
          have hS82 := hS81.fr5; clear hS81
          have hS83 : St _ _ [_, _, .fz g56, _, _, .fz g63] _ := hS82.only 6; clear hS82
          refine hK44 _ _ (came (⟨s56, t, o, L56, g56, W63, ra63, rc63, g63⟩) (by repeat' (first | exact Agree.refl _ _ | refine Agree.up ?_ rfl | refine Agree.hav2 ?_ rfl | refine Agree.ups2 ?_ rfl)) (by refine ⟨by first | rfl | exact congrArg Value.bool (decide_eq_true (by omega)), trivial⟩) ?_)
          exact ⟨hS83, (by show s56 ≤ i + 1; omega), (by show s56 = t + o + List.length L56; omega), hE56, hn56, hW63, heq63⟩
       ·
        have hg69b := hg69
        try simp only [decide_eq_true_eq, decide_eq_false_iff_not, Bool.not_eq_true', Bool.not_eq_false', Bool.and_eq_true, Bool.or_eq_true, Int.not_lt, Int.not_le, ne_eq, Decidable.not_not] at hg69
        exfalso; first | omega | exact hg69 trivial
      ·
       have hc47b := hc47
       try simp only [decide_eq_true_eq, decide_eq_false_iff_not, Bool.not_eq_true', Bool.not_eq_false', Bool.and_eq_true, Bool.or_eq_true, Int.not_lt, Int.not_le, ne_eq, Decidable.not_not] at hc47
       refine wp_seq_k (fun K84 hK84 => ?_)
       refine wp_seq_k (fun K85 hK85 => ?_)
       refine wp_region_lit ?_
       refine l_q rfl rfl (q_eql rfl rfl) ?_
       refine l_q rfl rfl (q_assignB rfl) ?_
       refine l_nil ?_
       refine hK85 _ _ ?_
       refine c_cond rfl (fun hc86 => ?_) (fun hc86 => ?_)
       ·
        have hc86b := hc86
        try simp only [decide_eq_true_eq, decide_eq_false_iff_not, Bool.not_eq_true', Bool.not_eq_false', Bool.and_eq_true, Bool.or_eq_true, Int.not_lt, Int.not_le, ne_eq, Decidable.not_not] at hc86
        refine wp_skip ?_
        refine hK84 _ _ ?_
        refine c_condT rfl hc86b ?_
        refine wp_seq_k (fun K88 hK88 => ?_)
        refine wp_region_lit ?_
        refine l_q rfl rfl (q_moveP rfl) ?_
        refine l_q rfl rfl (q_fieldAddr (ft := 3) (o := 1) rfl (by kernel_rfl)) ?_
        refine l_q rfl rfl (q_load1 rfl (by kernel_rfl) (hS31.cell (i := 0) rfl rfl)) ?_
        rcases rf_or (W := W) (s := s) (by rw [heq]; exact hn) x29.n with ⟨A, q, B, hWe, hq, hA⟩ | hno
        ·
         have hqat := wy_at hWe
         have hqm := List.mem_of_getElem? hqat
         have hq16 := (hW q hqm).2.1
         have hAl := wy_len hWe
         have hmem : (q.n, q.l) ∈ absN L := by rw [← heq]; exact List.mem_map.2 ⟨q, hqm, rfl⟩
         refine l_e rfl (fun K hK => ?_)
         refine e_call (by kernel_rfl) (rfind_hit b9 ra rc s t o W (by omega) x29.n A q B hWe hq hA _ (hS31.blk (i := 4) rfl) (hS31.owG (i := 5) rfl)) rfl (after_R hS31 (fun v89 w89 hv89 hS89 => ?_))
         clear hS31
         obtain rfl := hv89
         refine hK _ _ ?_; clear hK K
         refine l_q rfl rfl (q_assignI rfl) ?_
         refine l_nil ?_
         refine hK88 _ _ ?_
         refine wp_seq_k (fun K90 hK90 => ?_)
         refine wp_region_lit ?_
         refine l_e rfl (fun K hK => ?_)
         refine e_alloc (zv := .agg #[.int .i64 0, .int .i64 0, .int .i64 0, .int .i64 0, .slice none 0 0]) hS89 (by kernel_rfl) (fun b91 w91 (hS91 : St _ _ [.blk b91 (.cells #[.int .i64 (0 : Int), .int .i64 (0 : Int), .int .i64 (0 : Int), .int .i64 (0 : Int), .slice none 0 0] 25), _, _, _, .fz g, _, _, .fz g2] _) => ?_)
         clear hS89
         refine hK _ _ ?_; clear hK K
         refine l_nil ?_
         refine hK90 _ _ ?_
         refine wp_seq_k (fun K92 hK92 => ?_)
         refine wp_region_lit ?_
         refine l_q rfl rfl (q_assignI rfl) ?_
         refine l_nil ?_
         refine hK92 _ _ ?_
         refine wp_seq_k (fun K93 hK93 => ?_)
         refine wp_seq_k (fun K94 hK94 => ?_)
         refine wp_region_lit ?_
         refine l_q rfl rfl (q_moveI rfl) ?_
         refine l_q rfl rfl (q_geq rfl rfl) ?_
         refine l_nil ?_
         refine hK94 _ _ ?_
         refine c_condT rfl (decide_eq_true (by omega)) ?_
         refine wp_seq_k (fun K96 hK96 => ?_)
         refine wp_region_lit ?_
         refine l_q rfl rfl (q_moveP rfl) ?_
         refine l_q rfl rfl (q_nilCheck rfl) ?_
         refine l_q rfl rfl (q_fieldAddr (ft := 49) (o := 0) rfl (by kernel_rfl)) ?_
         refine l_q rfl rfl (q_load1 rfl (by kernel_rfl) (hS91.cell (i := 5) rfl rfl)) ?_
         refine l_q rfl rfl (q_moveI rfl) ?_
         refine l_q rfl rfl (q_ixG (e := 54) (m := 6) (j := A.length) rfl rfl (by kernel_rfl) (by kernel_rfl) (by first | rfl | omega) (by omega) (hS91.owG (i := 6) rfl) (by rw [rows_len (c := wc) (m := 6) (fun _ => rfl)]; first | omega | (simp only [List.length_append, List.length_map, List.length_cons, List.length_nil, List.length_take, List.length_drop, List.length_set] <;> omega))) ?_
         refine l_q rfl rfl (q_fieldG (ft := 25) (o := 1) rfl (by kernel_rfl)) ?_
         refine l_q rfl rfl (q_loadGA (m := 5) rfl (by kernel_rfl) (by kernel_rfl) (hS91.owG (i := 6) rfl) (row_sub hqat (c := wc) (m := 6) (fun _ => rfl) rfl rfl) rfl (by decide)) ?_
         refine l_e rfl (fun K hK => ?_)
         refine e_storeA hS91 rfl rfl (by kernel_rfl) (by repeat' (first | exact trivial | refine ⟨by first | rfl | assumption | exact one_if (by assumption), ?_⟩)) (i := 0) rfl rfl (fun w97 (hS97 : St _ _ [.blk b91 (.cells #[.int .i64 q.l.k, .int .i64 q.l.f, .int .i64 q.l.t, .int .i64 q.l.x, .slice q.ad q.l.nd.length q.cap] 25), _, _, _, .fz g, _, _, .fz g2] _) => ?_)
         clear hS91
         refine hK _ _ ?_; clear hK K
         refine l_nil ?_
         refine hK96 _ _ ?_
         refine wp_region_lit ?_
         refine l_q rfl rfl (q_assignI rfl) ?_
         refine l_nil ?_
         refine hK93 _ _ ?_
         refine wp_seq_k (fun K98 hK98 => ?_)
         refine wp_region_lit ?_
         refine l_q rfl rfl (q_moveP rfl) ?_
         refine l_q rfl rfl (q_fieldAddr (ft := 3) (o := 1) rfl (by kernel_rfl)) ?_
         refine l_q rfl rfl (q_load1 rfl (by kernel_rfl) (hS97.cell (i := 1) rfl rfl)) ?_
         refine l_e rfl (fun K hK => ?_)
         refine e_call (by kernel_rfl) (look_any k mb s t o L hn x29.n _ (hS97.blk (i := 2) rfl) (hS97.map (i := 3) rfl) (hE.mono (hS97.fz (i := 4) rfl))) rfl (after_N hS97 (fun v99 G99 w99 hv99 hS99 => ?_))
         clear hS97
         obtain ⟨l99, b99, an99, cn99, rfl, rfl, hs99⟩ := hv99
         have hS100 : St _ _ [.ow 3 1 an99 l99.nd.length cn99 (iv l99.nd), _, _, _, _, .fz g, _, _, .fz g2] _ := hS99; clear hS99
         obtain ⟨hv99, hb99⟩ := tk_val hs99 (hn.tkv (show (x29.n, q.l) ∈ absN L from by rw [← hq]; exact hmem))
         have hvl99 : l99.nd.length ≤ 16 := by rw [hv99]; exact hq16
         refine hK _ _ ?_; clear hK K
         refine l_q rfl rfl (q_move rfl) ?_
         refine l_q rfl rfl (q_extract rfl rfl) ?_
         refine l_q rfl rfl (q_extract rfl rfl) ?_
         refine l_e rfl (fun K hK => ?_)
         refine e_alloc (zv := .agg #[.int .i64 0, .int .i64 0, .int .i64 0, .int .i64 0, .slice none 0 0]) hS100 (by kernel_rfl) (fun b101 w101 (hS101 : St _ _ [.blk b101 (.cells #[.int .i64 (0 : Int), .int .i64 (0 : Int), .int .i64 (0 : Int), .int .i64 (0 : Int), .slice none 0 0] 25), _, _, _, _, _, .fz g, _, _, .fz g2] _) => ?_)
         clear hS100
         refine hK _ _ ?_; clear hK K
         refine l_e rfl (fun K hK => ?_)
         refine e_storeA hS101 rfl rfl (by kernel_rfl) (by repeat' (first | exact trivial | refine ⟨by first | rfl | assumption | exact one_if (by assumption), ?_⟩)) (i := 0) rfl rfl (fun w102 (hS102 : St _ _ [.blk b101 (.cells #[.int .i64 l99.k, .int .i64 l99.f, .int .i64 l99.t, .int .i64 l99.x, .slice an99 l99.nd.length cn99] 25), _, _, _, _, _, .fz g, _, _, .fz g2] _) => ?_)
         clear hS101
         refine hK _ _ ?_; clear hK K
         refine l_q rfl rfl (q_assignI rfl) ?_
         refine l_nil ?_
         refine hK98 _ _ ?_
         refine wp_seq_k (fun K103 hK103 => ?_)
         refine wp_region_lit ?_
         refine l_q rfl rfl (q_loadA (m := 5) rfl (by kernel_rfl) (by kernel_rfl) (hS102.blk (i := 0) rfl) rfl rfl) ?_
         refine l_q rfl rfl (q_loadA (m := 5) rfl (by kernel_rfl) (by kernel_rfl) (hS102.blk (i := 2) rfl) rfl rfl) ?_
         refine l_e rfl (fun K hK => ?_)
         refine e_call (by kernel_rfl) (lsame_t l99 q.l l99.nd.length q.l.nd.length (by first | rfl | omega) (by first | rfl | omega) (by omega) (by omega) _ _ _ _ _ (hS102.owG (i := 1) rfl) ((hW q hqm).1.mono (hS102.fz (i := 9) rfl)) hv99) rfl (after_R hS102 (fun v104 w104 hv104 hS104 => ?_))
         clear hS102
         obtain rfl := hv104
         refine hK _ _ ?_; clear hK K
         refine l_q rfl rfl (q_assignB rfl) ?_
         refine l_nil ?_
         refine hK103 _ _ ?_
         refine wp_seq_k (fun K105 hK105 => ?_)
         refine wp_region_lit ?_
         refine l_q rfl rfl (q_moveB rfl) ?_
         refine l_q rfl rfl (q_moveB rfl) ?_
         refine l_on rfl rfl rfl ?_
         refine l_q rfl rfl (q_moveI rfl) ?_
         refine l_on rfl rfl rfl ?_
         refine l_q rfl rfl (q_moveI rfl) ?_
         refine l_on rfl rfl rfl ?_
         refine l_q rfl rfl (q_eql rfl rfl) ?_
         refine l_q rfl rfl (q_pickT rfl rfl rfl) ?_
         refine l_q rfl rfl (q_assignB rfl) ?_
         refine l_nil ?_
         refine hK105 _ _ ?_
         refine wp_seq_k (fun K106 hK106 => ?_)
         refine wp_region_lit ?_
         refine l_q rfl rfl (q_fieldAddr (ft := 3) (o := 0) rfl (by kernel_rfl)) ?_
         refine l_q rfl rfl (q_load1 rfl (by kernel_rfl) (hS104.cell (i := 3) rfl rfl)) ?_
         refine l_q rfl rfl (q_eql rfl rfl) ?_
         refine l_nil ?_
         refine hK106 _ _ ?_
         refine c_condT rfl (decide_eq_true (by omega)) ?_
         refine wp_seq_k (fun K108 hK108 => ?_)
         refine wp_region_lit ?_
         refine l_q rfl rfl (q_moveP rfl) ?_
         refine l_q rfl rfl (q_fieldAddr (ft := 3) (o := 1) rfl (by kernel_rfl)) ?_
         refine l_q rfl rfl (q_load1 rfl (by kernel_rfl) (hS104.cell (i := 3) rfl rfl)) ?_
         refine l_e rfl (fun K hK => ?_)
         have hS110 := hS104.fr6; clear hS104
         have hS111 := hS110.fr6; clear hS110
         have hS112 := hS111.fr6; clear hS111
         refine e_call (by kernel_rfl) (take_any k mb s t o L g hE hn (by omega) x29.n _ (St.begin (Γ := [_, _, _]) hS112)) rfl (after_M (Γ1 := [_, _, _]) hS112 (fun v109 G109 w109 hv109 hS109 => ?_))
         clear hS112
         obtain ⟨l109, b109, an109, cn109, rfl, rfl, hs109⟩ := hv109
         have hS113 : St _ _ [.blk k (.cells #[.map (some mb), .int .i64 (s : Int), .int .i64 (((t + ls (absN L) x29.n) : Nat) : Int), .int .i64 (o : Int)] 60), .mp (.int .i64) mb (List.map nc (mdel L x29.n)), .fz g, .ow 3 1 an109 l109.nd.length cn109 (iv l109.nd), _, _, _, _, _, _, .fz g2] _ := hS109; clear hS109
         have hn109 : NumOk (absN (mdel L x29.n)) s := by rw [absN_del]; exact hn.del _
         have hgl109 := ls_add (absN L) x29.n; rw [← absN_del, absN_len, absN_len] at hgl109
         obtain ⟨hv109, hb109⟩ := tk_val hs109 (hn.tkv (show (x29.n, q.l) ∈ absN L from by rw [← hq]; exact hmem))
         have hvl109 : l109.nd.length ≤ 16 := by rw [hv109]; exact hq16
         refine hK _ _ ?_; clear hK K
         refine l_q rfl rfl (q_move rfl) ?_
         refine l_q rfl rfl (q_extract rfl rfl) ?_
         refine l_q rfl rfl (q_extract rfl rfl) ?_
         refine l_e rfl (fun K hK => ?_)
         refine e_alloc (zv := .agg #[.int .i64 0, .int .i64 0, .int .i64 0, .int .i64 0, .slice none 0 0]) hS113 (by kernel_rfl) (fun b114 w114 (hS114 : St _ _ [.blk b114 (.cells #[.int .i64 (0 : Int), .int .i64 (0 : Int), .int .i64 (0 : Int), .int .i64 (0 : Int), .slice none 0 0] 25), _, _, .fz g, _, _, _, _, _, _, _, .fz g2] _) => ?_)
         clear hS113
         refine hK _ _ ?_; clear hK K
         refine l_e rfl (fun K hK => ?_)
         refine e_storeA hS114 rfl rfl (by kernel_rfl) (by repeat' (first | exact trivial | refine ⟨by first | rfl | assumption | exact one_if (by assumption), ?_⟩)) (i := 0) rfl rfl (fun w115 (hS115 : St _ _ [.blk b114 (.cells #[.int .i64 l109.k, .int .i64 l109.f, .int .i64 l109.t, .int .i64 l109.x, .slice an109 l109.nd.length cn109] 25), _, _, .fz g, _, _, _, _, _, _, _, .fz g2] _) => ?_)
         clear hS114
         refine hK _ _ ?_; clear hK K
         refine l_q rfl rfl (q_assignI rfl) ?_
         refine l_nil ?_
         refine hK108 _ _ ?_
         refine wp_seq_k (fun K116 hK116 => ?_)
         refine wp_region_lit ?_
         refine l_q rfl rfl (q_moveP rfl) ?_
         refine l_q rfl rfl (q_fieldAddr (ft := 3) (o := 1) rfl (by kernel_rfl)) ?_
         refine l_q rfl rfl (q_load1 rfl (by kernel_rfl) (hS115.cell (i := 8) rfl rfl)) ?_
         refine l_e rfl (fun K hK => ?_)
         have hS118 : St _ _ [.fz g2, _, _, _, .fz g, _, _, _, _, _, _, _] _ := hS115.front (k := 11) rfl rfl; clear hS115
         have hS119 : St _ _ [_, .fz g2, _, _, _, .fz g, _, _, _, _, _, _] _ := hS118.front (k := 11) rfl rfl; clear hS118
         have hS120 : St _ _ [_, _, .fz g2, _, _, _, .fz g, _, _, _, _, _] _ := hS119.front (k := 11) rfl rfl; clear hS119
         refine e_call (by kernel_rfl) (rtake_any b9 ra rc s t o W g2 hW (by omega) (by rw [heq]; exact hn) (by omega) x29.n _ (St.begin (Γ := [_, _, _]) hS120)) rfl (after_M (Γ1 := [_, _, _]) hS120 (fun v117 G117 w117 hv117 hS117 => ?_))
         clear hS120
         obtain ⟨W117, ra117, rc117, rfl, hW117, hA117⟩ := hv117
         have hS121 : St _ _ [.blk b9 (.cells #[.slice ra117 W117.length rc117, .int .i64 (s : Int), .int .i64 (((t + ls (absW W) x29.n) : Nat) : Int), .int .i64 (o : Int)] 51), .ow 54 6 ra117 W117.length rc117 (List.flatMap wc W117), .fz g2, _, _, _, .fz g, _, _, _, _, _] _ := hS117; clear hS117
         have hlw117 : ls (absW W) x29.n = ls (absN L) x29.n := by rw [heq]
         rw [hlw117] at hS121
         have heq117 : absW W117 = absN (mdel L x29.n) := by rw [hA117, heq, absN_del]
         have hwl117 : List.length W117 = List.length (mdel L x29.n) := by rw [← absW_len, heq117, absN_len]
         refine hK _ _ ?_; clear hK K
         refine l_nil ?_
         refine hK116 _ _ ?_
         refine wp_seq_k (fun K122 hK122 => ?_)
         refine wp_region_lit ?_
         refine l_q rfl rfl (q_loadA (m := 5) rfl (by kernel_rfl) (by kernel_rfl) (hS121.blk (i := 3) rfl) rfl rfl) ?_
         refine l_q rfl rfl (q_loadA (m := 5) rfl (by kernel_rfl) (by kernel_rfl) (hS121.blk (i := 10) rfl) rfl rfl) ?_
         refine l_e rfl (fun K hK => ?_)
         refine e_call (by kernel_rfl) (lsame_t l109 q.l l109.nd.length q.l.nd.length (by first | rfl | omega) (by first | rfl | omega) (by omega) (by omega) _ _ _ _ _ (hS121.owG (i := 7) rfl) ((hW q hqm).1.mono (hS121.fz (i := 2) rfl)) hv109) rfl (after_R hS121 (fun v123 w123 hv123 hS123 => ?_))
         clear hS121
         obtain rfl := hv123
         refine hK _ _ ?_; clear hK K
         refine l_q rfl rfl (q_assignB rfl) ?_
         refine l_nil ?_
         refine hK122 _ _ ?_
         refine wp_region_lit ?_
         refine l_q rfl rfl (q_moveB rfl) ?_
         refine l_q rfl rfl (q_moveB rfl) ?_
         refine g_splitL (t := 153) rfl (fun hg124 => ?_) (fun hg124 => ?_)
         ·
          have hg124b := hg124
          try simp only [decide_eq_true_eq, decide_eq_false_iff_not, Bool.not_eq_true', Bool.not_eq_false', Bool.and_eq_true, Bool.or_eq_true, Int.not_lt, Int.not_le, ne_eq, Decidable.not_not] at hg124
          refine l_on rfl rfl hg124b ?_
          refine l_q rfl rfl (q_moveB rfl) ?_
          refine l_q rfl rfl (q_pickT rfl hg124b rfl) ?_
          refine l_q rfl rfl (q_moveB rfl) ?_
          refine l_on rfl rfl rfl ?_
          refine l_q rfl rfl (q_moveI rfl) ?_
          refine l_on rfl rfl rfl ?_
          refine l_q rfl rfl (q_moveI rfl) ?_
          refine l_on rfl rfl rfl ?_
          refine l_q rfl rfl (q_eql rfl rfl) ?_
          refine l_q rfl rfl (q_pickT rfl rfl rfl) ?_
          refine l_q rfl rfl (q_assignB rfl) ?_
          refine l_nil ?_
          have hS125 := hS123.fr2; clear hS123
          have hS126 := hS125.fr2; clear hS125
          have hS127 := hS126.fr2; clear hS126
          have hS128 := hS127.fr6; clear hS127
          have hS129 := hS128.fr6; clear hS128
          have hS130 := hS129.fr6; clear hS129
          have hS131 : St _ _ [_, _, .fz g, .blk b9 (.cells #[.slice ra117 W117.length rc117, .int .i64 (s : Int), .int .i64 (((t + ls (absN L) x29.n) : Nat) : Int), .int .i64 (o : Int)] 51), _, .fz g2] _ := hS130.only 6; clear hS130
          refine hK44 _ _ (came (⟨s, (t + ls (absN L) x29.n), o, (mdel L x29.n), g, W117, ra117, rc117, g2⟩) (by repeat' (first | exact Agree.refl _ _ | refine Agree.up ?_ rfl | refine Agree.hav2 ?_ rfl | refine Agree.ups2 ?_ rfl)) (by refine ⟨by first | rfl | exact congrArg Value.bool (decide_eq_true (by omega)), trivial⟩) ?_)
          exact ⟨hS131, (by show s ≤ i + 1; omega), (by show s = (t + ls (absN L) x29.n) + o + List.length (mdel L x29.n); omega), (EOk.del hE x29.n), hn109, hW117, heq117⟩
         ·
          have hg124b := hg124
          try simp only [decide_eq_true_eq, decide_eq_false_iff_not, Bool.not_eq_true', Bool.not_eq_false', Bool.and_eq_true, Bool.or_eq_true, Int.not_lt, Int.not_le, ne_eq, Decidable.not_not] at hg124
          exfalso; first | omega | exact hg124 trivial
        ·
         have hnoN := no_absW hno; rw [heq] at hnoN
         refine l_e rfl (fun K hK => ?_)
         refine e_call (by kernel_rfl) (rfind_miss b9 ra rc s t o W (by omega) x29.n hno _ (hS31.blk (i := 4) rfl) (hS31.owG (i := 5) rfl)) rfl (after_R hS31 (fun v132 w132 hv132 hS132 => ?_))
         clear hS31
         obtain rfl := hv132
         refine hK _ _ ?_; clear hK K
         refine l_q rfl rfl (q_assignI rfl) ?_
         refine l_nil ?_
         refine hK88 _ _ ?_
         refine wp_seq_k (fun K133 hK133 => ?_)
         refine wp_region_lit ?_
         refine l_e rfl (fun K hK => ?_)
         refine e_alloc (zv := .agg #[.int .i64 0, .int .i64 0, .int .i64 0, .int .i64 0, .slice none 0 0]) hS132 (by kernel_rfl) (fun b134 w134 (hS134 : St _ _ [.blk b134 (.cells #[.int .i64 (0 : Int), .int .i64 (0 : Int), .int .i64 (0 : Int), .int .i64 (0 : Int), .slice none 0 0] 25), _, _, _, .fz g, _, _, .fz g2] _) => ?_)
         clear hS132
         refine hK _ _ ?_; clear hK K
         refine l_nil ?_
         refine hK133 _ _ ?_
         refine wp_seq_k (fun K135 hK135 => ?_)
         refine wp_region_lit ?_
         refine l_q rfl rfl (q_assignI rfl) ?_
         refine l_nil ?_
         refine hK135 _ _ ?_
         refine wp_seq_k (fun K136 hK136 => ?_)
         refine wp_seq_k (fun K137 hK137 => ?_)
         refine wp_region_lit ?_
         refine l_q rfl rfl (q_moveI rfl) ?_
         refine l_q rfl rfl (q_geq rfl rfl) ?_
         refine l_nil ?_
         refine hK137 _ _ ?_
         refine c_condF rfl (by decide) ?_
         refine wp_skip ?_
         refine hK136 _ _ ?_
         refine wp_seq_k (fun K139 hK139 => ?_)
         refine wp_region_lit ?_
         refine l_q rfl rfl (q_moveP rfl) ?_
         refine l_q rfl rfl (q_fieldAddr (ft := 3) (o := 1) rfl (by kernel_rfl)) ?_
         refine l_q rfl rfl (q_load1 rfl (by kernel_rfl) (hS134.cell (i := 1) rfl rfl)) ?_
         refine l_e rfl (fun K hK => ?_)
         refine e_call (by kernel_rfl) (look_any k mb s t o L hn x29.n _ (hS134.blk (i := 2) rfl) (hS134.map (i := 3) rfl) (hE.mono (hS134.fz (i := 4) rfl))) rfl (after_N hS134 (fun v140 G140 w140 hv140 hS140 => ?_))
         clear hS134
         obtain ⟨l140, b140, an140, cn140, rfl, rfl, hs140⟩ := hv140
         have hS141 : St _ _ [.ow 3 1 an140 l140.nd.length cn140 (iv l140.nd), _, _, _, _, .fz g, _, _, .fz g2] _ := hS140; clear hS140
         obtain ⟨hv140, hb140⟩ := tk_val hs140 (tkv_no hnoN)
         have hvl140 : l140.nd.length ≤ 16 := by rw [hv140]; decide
         refine hK _ _ ?_; clear hK K
         refine l_q rfl rfl (q_move rfl) ?_
         refine l_q rfl rfl (q_extract rfl rfl) ?_
         refine l_q rfl rfl (q_extract rfl rfl) ?_
         refine l_e rfl (fun K hK => ?_)
         refine e_alloc (zv := .agg #[.int .i64 0, .int .i64 0, .int .i64 0, .int .i64 0, .slice none 0 0]) hS141 (by kernel_rfl) (fun b142 w142 (hS142 : St _ _ [.blk b142 (.cells #[.int .i64 (0 : Int), .int .i64 (0 : Int), .int .i64 (0 : Int), .int .i64 (0 : Int), .slice none 0 0] 25), _, _, _, _, _, .fz g, _, _, .fz g2] _) => ?_)
         clear hS141
         refine hK _ _ ?_; clear hK K
         refine l_e rfl (fun K hK => ?_)
         refine e_storeA hS142 rfl rfl (by kernel_rfl) (by repeat' (first | exact trivial | refine ⟨by first | rfl | assumption | exact one_if (by assumption), ?_⟩)) (i := 0) rfl rfl (fun w143 (hS143 : St _ _ [.blk b142 (.cells #[.int .i64 l140.k, .int .i64 l140.f, .int .i64 l140.t, .int .i64 l140.x, .slice an140 l140.nd.length cn140] 25), _, _, _, _, _, .fz g, _, _, .fz g2] _) => ?_)
         clear hS142
         refine hK _ _ ?_; clear hK K
         refine l_q rfl rfl (q_assignI rfl) ?_
         refine l_nil ?_
         refine hK139 _ _ ?_
         refine wp_seq_k (fun K144 hK144 => ?_)
         refine wp_region_lit ?_
         refine l_q rfl rfl (q_loadA (m := 5) rfl (by kernel_rfl) (by kernel_rfl) (hS143.blk (i := 0) rfl) rfl rfl) ?_
         refine l_q rfl rfl (q_loadA (m := 5) rfl (by kernel_rfl) (by kernel_rfl) (hS143.blk (i := 2) rfl) rfl rfl) ?_
         refine l_e rfl (fun K hK => ?_)
         refine e_call (by kernel_rfl) (lsame_t l140 (Lr.mk (0 : Int) (0 : Int) (0 : Int) (0 : Int) []) l140.nd.length 0 (by first | rfl | omega) (by first | rfl | omega) (by omega) (by omega) _ _ _ _ _ (hS143.owG (i := 1) rfl) SlG.nil hv140) rfl (after_R hS143 (fun v145 w145 hv145 hS145 => ?_))
         clear hS143
         obtain rfl := hv145
         refine hK _ _ ?_; clear hK K
         refine l_q rfl rfl (q_assignB rfl) ?_
         refine l_nil ?_
         refine hK144 _ _ ?_
         refine wp_seq_k (fun K146 hK146 => ?_)
         refine wp_region_lit ?_
         refine l_q rfl rfl (q_moveB rfl) ?_
         refine l_q rfl rfl (q_moveB rfl) ?_
         refine l_on rfl rfl rfl ?_
         refine l_q rfl rfl (q_moveI rfl) ?_
         refine l_on rfl rfl rfl ?_
         refine l_q rfl rfl (q_moveI rfl) ?_
         refine l_on rfl rfl rfl ?_
         refine l_q rfl rfl (q_eql rfl rfl) ?_
         refine l_q rfl rfl (q_pickT rfl rfl rfl) ?_
         refine l_q rfl rfl (q_assignB rfl) ?_
         refine l_nil ?_
         refine hK146 _ _ ?_
         refine wp_seq_k (fun K147 hK147 => ?_)
         refine wp_region_lit ?_
         refine l_q rfl rfl (q_fieldAddr (ft := 3) (o := 0) rfl (by kernel_rfl)) ?_
         refine l_q rfl rfl (q_load1 rfl (by kernel_rfl) (hS145.cell (i := 3) rfl rfl)) ?_
         refine l_q rfl rfl (q_eql rfl rfl) ?_
         refine l_nil ?_
         refine hK147 _ _ ?_
         refine c_condT rfl (decide_eq_true (by omega)) ?_
         refine wp_seq_k (fun K149 hK149 => ?_)
         refine wp_region_lit ?_
         refine l_q rfl rfl (q_moveP rfl) ?_
         refine l_q rfl rfl (q_fieldAddr (ft := 3) (o := 1) rfl (by kernel_rfl)) ?_
         refine l_q rfl rfl (q_load1 rfl (by kernel_rfl) (hS145.cell (i := 3) rfl rfl)) ?_
         refine l_e rfl (fun K hK => ?_)
         have hS151 := hS145.fr6; clear hS145
         have hS152 := hS151.fr6; clear hS151
         have hS153 := hS152.fr6; clear hS152
         refine e_call (by kernel_rfl) (take_any k mb s t o L g hE hn (by omega) x29.n _ (St.begin (Γ := [_, _, _]) hS153)) rfl (after_M (Γ1 := [_, _, _]) hS153 (fun v150 G150 w150 hv150 hS150 => ?_))
         clear hS153
         obtain ⟨l150, b150, an150, cn150, rfl, rfl, hs150⟩ := hv150
         have hS154 : St _ _ [_, _, .fz g, .ow 3 1 an150 l150.nd.length cn150 (iv l150.nd), _, _, _, _, _, _, .fz g2] _ := hS150; clear hS150
         have hn150 : NumOk (absN (mdel L x29.n)) s := by rw [absN_del]; exact hn.del _
         have hgl150 := ls_add (absN L) x29.n; rw [← absN_del, absN_len, absN_len] at hgl150
         obtain ⟨hv150, hb150⟩ := tk_val hs150 (tkv_no hnoN)
         have hvl150 : l150.nd.length ≤ 16 := by rw [hv150]; decide
         refine hK _ _ ?_; clear hK K
         refine l_q rfl rfl (q_move rfl) ?_
         refine l_q rfl rfl (q_extract rfl rfl) ?_
         refine l_q rfl rfl (q_extract rfl rfl) ?_
         refine l_e rfl (fun K hK => ?_)
         refine e_alloc (zv := .agg #[.int .i64 0, .int .i64 0, .int .i64 0, .int .i64 0, .slice none 0 0]) hS154 (by kernel_rfl) (fun b155 w155 (hS155 : St _ _ [.blk b155 (.cells #[.int .i64 (0 : Int), .int .i64 (0 : Int), .int .i64 (0 : Int), .int .i64 (0 : Int), .slice none 0 0] 25), _, _, .fz g, _, _, _, _, _, _, _, .fz g2] _) => ?_)
         clear hS154
         refine hK _ _ ?_; clear hK K
         refine l_e rfl (fun K hK => ?_)
         refine e_storeA hS155 rfl rfl (by kernel_rfl) (by repeat' (first | exact trivial | refine ⟨by first | rfl | assumption | exact one_if (by assumption), ?_⟩)) (i := 0) rfl rfl (fun w156 (hS156 : St _ _ [.blk b155 (.cells #[.int .i64 l150.k, .int .i64 l150.f, .int .i64 l150.t, .int .i64 l150.x, .slice an150 l150.nd.length cn150] 25), _, _, .fz g, _, _, _, _, _, _, _, .fz g2] _) => ?_)
         clear hS155
         refine hK _ _ ?_; clear hK K
         refine l_q rfl rfl (q_assignI rfl) ?_
         refine l_nil ?_
         refine hK149 _ _ ?_
         refine wp_seq_k (fun K157 hK157 => ?_)
         refine wp_region_lit ?_
         refine l_q rfl rfl (q_moveP rfl) ?_
         refine l_q rfl rfl (q_fieldAddr (ft := 3) (o := 1) rfl (by kernel_rfl)) ?_
         refine l_q rfl rfl (q_load1 rfl (by kernel_rfl) (hS156.cell (i := 8) rfl rfl)) ?_
         refine l_e rfl (fun K hK => ?_)
         have hS159 : St _ _ [.fz g2, _, _, _, .fz g, _, _, _, _, _, _, _] _ := hS156.front (k := 11) rfl rfl; clear hS156
         have hS160 : St _ _ [_, .fz g2, _, _, _, .fz g, _, _, _, _, _, _] _ := hS159.front (k := 11) rfl rfl; clear hS159
         have hS161 : St _ _ [_, _, .fz g2, _, _, _, .fz g, _, _, _, _, _] _ := hS160.front (k := 11) rfl rfl; clear hS160
         refine e_call (by kernel_rfl) (rtake_any b9 ra rc s t o W g2 hW (by omega) (by rw [heq]; exact hn) (by omega) x29.n _ (St.begin (Γ := [_, _, _]) hS161)) rfl (after_M (Γ1 := [_, _, _]) hS161 (fun v158 G158 w158 hv158 hS158 => ?_))
         clear hS161
         obtain ⟨W158, ra158, rc158, rfl, hW158, hA158⟩ := hv158
         have hS162 : St _ _ [.blk b9 (.cells #[.slice ra158 W158.length rc158, .int .i64 (s : Int), .int .i64 (((t + ls (absW W) x29.n) : Nat) : Int), .int .i64 (o : Int)] 51), .ow 54 6 ra158 W158.length rc158 (List.flatMap wc W158), .fz g2, _, _, _, .fz g, _, _, _, _, _] _ := hS158; clear hS158
         have hlw158 : ls (absW W) x29.n = ls (absN L) x29.n := by rw [heq]
         rw [hlw158] at hS162
         have heq158 : absW W158 = absN (mdel L x29.n) := by rw [hA158, heq, absN_del]
         have hwl158 : List.length W158 = List.length (mdel L x29.n) := by rw [← absW_len, heq158, absN_len]
         refine hK _ _ ?_; clear hK K
         refine l_nil ?_
         refine hK157 _ _ ?_
         refine wp_seq_k (fun K163 hK163 => ?_)
         refine wp_region_lit ?_
         refine l_q rfl rfl (q_loadA (m := 5) rfl (by kernel_rfl) (by kernel_rfl) (hS162.blk (i := 3) rfl) rfl rfl) ?_
         refine l_q rfl rfl (q_loadA (m := 5) rfl (by kernel_rfl) (by kernel_rfl) (hS162.blk (i := 10) rfl) rfl rfl) ?_
         refine l_e rfl (fun K hK => ?_)
         refine e_call (by kernel_rfl) (lsame_t l150 (Lr.mk (0 : Int) (0 : Int) (0 : Int) (0 : Int) []) l150.nd.length 0 (by first | rfl | omega) (by first | rfl | omega) (by omega) (by omega) _ _ _ _ _ (hS162.owG (i := 7) rfl) SlG.nil hv150) rfl (after_R hS162 (fun v164 w164 hv164 hS164 => ?_))
         clear hS162
         obtain rfl := hv164
         refine hK _ _ ?_; clear hK K
         refine l_q rfl rfl (q_assignB rfl) ?_
         refine l_nil ?_
         refine hK163 _ _ ?_
         refine wp_region_lit ?_
         refine l_q rfl rfl (q_moveB rfl) ?_
         refine l_q rfl rfl (q_moveB rfl) ?_
         refine g_splitL (t := 153) rfl (fun hg165 => ?_) (fun hg165 => ?_)
         ·
          have hg165b := hg165
          try simp only [decide_eq_true_eq, decide_eq_false_iff_not, Bool.not_eq_true', Bool.not_eq_false', Bool.and_eq_true, Bool.or_eq_true, Int.not_lt, Int.not_le, ne_eq, Decidable.not_not] at hg165
          refine l_on rfl rfl hg165b ?_
          refine l_q rfl rfl (q_moveB rfl) ?_
          refine l_q rfl rfl (q_pickT rfl hg165b rfl) ?_
          refine l_q rfl rfl (q_moveB rfl) ?_
          refine l_on rfl rfl rfl ?_
          refine l_q rfl rfl (q_moveI rfl) ?_
          refine l_on rfl rfl rfl ?_
          refine l_q rfl rfl (q_moveI rfl) ?_
          refine l_on rfl rfl rfl ?_
          refine l_q rfl rfl (q_eql rfl rfl) ?_
          refine l_q rfl rfl (q_pickT rfl rfl rfl) ?_
          refine l_q rfl rfl (q_assignB rfl) ?_
          refine l_nil ?_
          have hS166 := hS164.fr2; clear hS164
          have hS167 := hS166.fr2; clear hS166
          have hS168 := hS167.fr2; clear hS167
          have hS169 := hS168.fr6; clear hS168
          have hS170 := hS169.fr6; clear hS169
          have hS171 := hS170.fr6; clear hS170
          have hS172 : St _ _ [_, _, .fz g, .blk b9 (.cells #[.slice ra158 W158.length rc158, .int .i64 (s : Int), .int .i64 (((t + ls (absN L) x29.n) : Nat) : Int), .int .i64 (o : Int)] 51), _, .fz g2] _ := hS171.only 6; clear hS171
          refine hK44 _ _ (came (⟨s, (t + ls (absN L) x29.n), o, (mdel L x29.n), g, W158, ra158, rc158, g2⟩) (by repeat' (first | exact Agree.refl _ _ | refine Agree.up ?_ rfl | refine Agree.hav2 ?_ rfl | refine Agree.ups2 ?_ rfl)) (by refine ⟨by first | rfl | exact congrArg Value.bool (decide_eq_true (by omega)), trivial⟩) ?_)
          exact ⟨hS172, (by show s ≤ i + 1; omega), (by show s = (t + ls (absN L) x29.n) + o + List.length (mdel L x29.n); omega), (EOk.del hE x29.n), hn150, hW158, heq158⟩
         ·
          have hg165b := hg165
          try simp only [decide_eq_true_eq, decide_eq_false_iff_not, Bool.not_eq_true', Bool.not_eq_false', Bool.and_eq_true, Bool.or_eq_true, Int.not_lt, Int.not_le, ne_eq, Decidable.not_not] at hg165
          exfalso; first | omega | exact hg165 trivial
       ·
        have hc86b := hc86
        try simp only [decide_eq_true_eq, decide_eq_false_iff_not, Bool.not_eq_true', Bool.not_eq_false', Bool.and_eq_true, Bool.or_eq_true, Int.not_lt, Int.not_le, ne_eq, Decidable.not_not] at hc86
        refine wp_region_lit ?_
        refine l_q rfl rfl (q_eql rfl rfl) ?_
        refine l_q rfl rfl (q_assignB rfl) ?_
        refine l_nil ?_
        refine hK84 _ _ ?_
        refine c_cond rfl (fun hc173 => ?_) (fun hc173 => ?_)
        ·
         have hc173b := hc173
         try simp only [decide_eq_true_eq, decide_eq_false_iff_not, Bool.not_eq_true', Bool.not_eq_false', Bool.and_eq_true, Bool.or_eq_true, Int.not_lt, Int.not_le, ne_eq, Decidable.not_not] at hc173
         refine wp_seq_k (fun K174 hK174 => ?_)
         refine wp_region_lit ?_
         refine l_q rfl rfl (q_moveP rfl) ?_
         refine l_q rfl rfl (q_fieldAddr (ft := 3) (o := 1) rfl (by kernel_rfl)) ?_
         refine l_q rfl rfl (q_load1 rfl (by kernel_rfl) (hS31.cell (i := 0) rfl rfl)) ?_
         rcases rf_or (W := W) (s := s) (by rw [heq]; exact hn) x29.n with ⟨A, q, B, hWe, hq, hA⟩ | hno
         ·
          have hqat := wy_at hWe
          have hqm := List.mem_of_getElem? hqat
          have hq16 := (hW q hqm).2.1
          have hAl := wy_len hWe
          have hmem : (q.n, q.l) ∈ absN L := by rw [← heq]; exact List.mem_map.2 ⟨q, hqm, rfl⟩
          refine l_e rfl (fun K hK => ?_)
          refine e_call (by kernel_rfl) (rfind_hit b9 ra rc s t o W (by omega) x29.n A q B hWe hq hA _ (hS31.blk (i := 4) rfl) (hS31.owG (i := 5) rfl)) rfl (after_R hS31 (fun v175 w175 hv175 hS175 => ?_))
          clear hS31
          obtain rfl := hv175
          refine hK _ _ ?_; clear hK K
          refine l_q rfl rfl (q_assignI rfl) ?_
          refine l_nil ?_
          refine hK174 _ _ ?_
          refine wp_seq_k (fun K176 hK176 => ?_)
          refine wp_region_lit ?_
          refine l_e rfl (fun K hK => ?_)
          refine e_alloc (zv := .agg #[.int .i64 0, .int .i64 0, .int .i64 0, .int .i64 0, .slice none 0 0]) hS175 (by kernel_rfl) (fun b177 w177 (hS177 : St _ _ [.blk b177 (.cells #[.int .i64 (0 : Int), .int .i64 (0 : Int), .int .i64 (0 : Int), .int .i64 (0 : Int), .slice none 0 0] 25), _, _, _, .fz g, _, _, .fz g2] _) => ?_)
          clear hS175
          refine hK _ _ ?_; clear hK K
          refine l_nil ?_
          refine hK176 _ _ ?_
          refine wp_seq_k (fun K178 hK178 => ?_)
          refine wp_region_lit ?_
          refine l_q rfl rfl (q_assignI rfl) ?_
          refine l_nil ?_
          refine hK178 _ _ ?_
          refine wp_seq_k (fun K179 hK179 => ?_)
          refine wp_seq_k (fun K180 hK180 => ?_)
          refine wp_region_lit ?_
          refine l_q rfl rfl (q_moveI rfl) ?_
          refine l_q rfl rfl (q_geq rfl rfl) ?_
          refine l_nil ?_
          refine hK180 _ _ ?_
          refine c_condT rfl (decide_eq_true (by omega)) ?_
          refine wp_seq_k (fun K182 hK182 => ?_)
          refine wp_region_lit ?_
          refine l_q rfl rfl (q_moveP rfl) ?_
          refine l_q rfl rfl (q_nilCheck rfl) ?_
          refine l_q rfl rfl (q_fieldAddr (ft := 49) (o := 0) rfl (by kernel_rfl)) ?_
          refine l_q rfl rfl (q_load1 rfl (by kernel_rfl) (hS177.cell (i := 5) rfl rfl)) ?_
          refine l_q rfl rfl (q_moveI rfl) ?_
          refine l_q rfl rfl (q_ixG (e := 54) (m := 6) (j := A.length) rfl rfl (by kernel_rfl) (by kernel_rfl) (by first | rfl | omega) (by omega) (hS177.owG (i := 6) rfl) (by rw [rows_len (c := wc) (m := 6) (fun _ => rfl)]; first | omega | (simp only [List.length_append, List.length_map, List.length_cons, List.length_nil, List.length_take, List.length_drop, List.length_set] <;> omega))) ?_
          refine l_q rfl rfl (q_fieldG (ft := 25) (o := 1) rfl (by kernel_rfl)) ?_
          refine l_q rfl rfl (q_loadGA (m := 5) rfl (by kernel_rfl) (by kernel_rfl) (hS177.owG (i := 6) rfl) (row_sub hqat (c := wc) (m := 6) (fun _ => rfl) rfl rfl) rfl (by decide)) ?_
          refine l_e rfl (fun K hK => ?_)
          refine e_storeA hS177 rfl rfl (by kernel_rfl) (by repeat' (first | exact trivial | refine ⟨by first | rfl | assumption | exact one_if (by assumption), ?_⟩)) (i := 0) rfl rfl (fun w183 (hS183 : St _ _ [.blk b177 (.cells #[.int .i64 q.l.k, .int .i64 q.l.f, .int .i64 q.l.t, .int .i64 q.l.x, .slice q.ad q.l.nd.length q.cap] 25), _, _, _, .fz g, _, _, .fz g2] _) => ?_)
          clear hS177
          refine hK _ _ ?_; clear hK K
          refine l_nil ?_
          refine hK182 _ _ ?_
          refine wp_region_lit ?_
          refine l_q rfl rfl (q_assignI rfl) ?_
          refine l_nil ?_
          refine hK179 _ _ ?_
          refine wp_seq_k (fun K184 hK184 => ?_)
          refine wp_region_lit ?_
          refine l_q rfl rfl (q_moveP rfl) ?_
          refine l_q rfl rfl (q_fieldAddr (ft := 3) (o := 1) rfl (by kernel_rfl)) ?_
          refine l_q rfl rfl (q_load1 rfl (by kernel_rfl) (hS183.cell (i := 1) rfl rfl)) ?_
          refine l_e rfl (fun K hK => ?_)
          refine e_call (by kernel_rfl) (look_any k mb s t o L hn x29.n _ (hS183.blk (i := 2) rfl) (hS183.map (i := 3) rfl) (hE.mono (hS183.fz (i := 4) rfl))) rfl (after_N hS183 (fun v185 G185 w185 hv185 hS185 => ?_))
          clear hS183
          obtain ⟨l185, b185, an185, cn185, rfl, rfl, hs185⟩ := hv185
          have hS186 : St _ _ [.ow 3 1 an185 l185.nd.length cn185 (iv l185.nd), _, _, _, _, .fz g, _, _, .fz g2] _ := hS185; clear hS185
          obtain ⟨hv185, hb185⟩ := tk_val hs185 (hn.tkv (show (x29.n, q.l) ∈ absN L from by rw [← hq]; exact hmem))
          have hvl185 : l185.nd.length ≤ 16 := by rw [hv185]; exact hq16
          refine hK _ _ ?_; clear hK K
          refine l_q rfl rfl (q_move rfl) ?_
          refine l_q rfl rfl (q_extract rfl rfl) ?_
          refine l_q rfl rfl (q_extract rfl rfl) ?_
          refine l_e rfl (fun K hK => ?_)
          refine e_alloc (zv := .agg #[.int .i64 0, .int .i64 0, .int .i64 0, .int .i64 0, .slice none 0 0]) hS186 (by kernel_rfl) (fun b187 w187 (hS187 : St _ _ [.blk b187 (.cells #[.int .i64 (0 : Int), .int .i64 (0 : Int), .int .i64 (0 : Int), .int .i64 (0 : Int), .slice none 0 0] 25), _, _, _, _, _, .fz g, _, _, .fz g2] _) => ?_)
          clear hS186
          refine hK _ _ ?_; clear hK K
          refine l_e rfl (fun K hK => ?_)
          refine e_storeA hS187 rfl rfl (by kernel_rfl) (by repeat' (first | exact trivial | refine ⟨by first | rfl | assumption | exact one_if (by assumption), ?_⟩)) (i := 0) rfl rfl (fun w188 (hS188 : St _ _ [.blk b187 (.cells #[.int .i64 l185.k, .int .i64 l185.f, .int .i64 l185.t, .int .i64 l185.x, .slice an185 l185.nd.length cn185] 25), _, _, _, _, _, .fz g, _, _, .fz g2] _) => ?_)
          clear hS187
          refine hK _ _ ?_; clear hK K
          refine l_q rfl rfl (q_assignI rfl) ?_
          refine l_nil ?_
          refine hK184 _ _ ?_
          refine wp_seq_k (fun K189 hK189 => ?_)
          refine wp_region_lit ?_
          refine l_q rfl rfl (q_loadA (m := 5) rfl (by kernel_rfl) (by kernel_rfl) (hS188.blk (i := 0) rfl) rfl rfl) ?_
          refine l_q rfl rfl (q_loadA (m := 5) rfl (by kernel_rfl) (by kernel_rfl) (hS188.blk (i := 2) rfl) rfl rfl) ?_
          refine l_e rfl (fun K hK => ?_)
          refine e_call (by kernel_rfl) (lsame_t l185 q.l l185.nd.length q.l.nd.length (by first | rfl | omega) (by first | rfl | omega) (by omega) (by omega) _ _ _ _ _ (hS188.owG (i := 1) rfl) ((hW q hqm).1.mono (hS188.fz (i := 9) rfl)) hv185) rfl (after_R hS188 (fun v190 w190 hv190 hS190 => ?_))
          clear hS188
          obtain rfl := hv190
          refine hK _ _ ?_; clear hK K
          refine l_q rfl rfl (q_assignB rfl) ?_
          refine l_nil ?_
          refine hK189 _ _ ?_
          refine wp_seq_k (fun K191 hK191 => ?_)
          refine wp_region_lit ?_
          refine l_q rfl rfl (q_moveB rfl) ?_
          refine l_q rfl rfl (q_moveB rfl) ?_
          refine l_on rfl rfl rfl ?_
          refine l_q rfl rfl (q_moveI rfl) ?_
          refine l_on rfl rfl rfl ?_
          refine l_q rfl rfl (q_moveI rfl) ?_
          refine l_on rfl rfl rfl ?_
          refine l_q rfl rfl (q_eql rfl rfl) ?_
          refine l_q rfl rfl (q_pickT rfl rfl rfl) ?_
          refine l_q rfl rfl (q_assignB rfl) ?_
          refine l_nil ?_
          refine hK191 _ _ ?_
          refine wp_seq_k (fun K192 hK192 => ?_)
          refine wp_region_lit ?_
          refine l_q rfl rfl (q_fieldAddr (ft := 3) (o := 0) rfl (by kernel_rfl)) ?_
          refine l_q rfl rfl (q_load1 rfl (by kernel_rfl) (hS190.cell (i := 3) rfl rfl)) ?_
          refine l_q rfl rfl (q_eql rfl rfl) ?_
          refine l_nil ?_
          refine hK192 _ _ ?_
          refine c_condF rfl (decide_eq_false (by omega)) ?_
          refine wp_skip ?_
          have hS194 := hS190.fr9; clear hS190
          have hS195 := hS194.fr9; clear hS194
          have hS196 := hS195.fr9; clear hS195
          have hS197 := hS196.fr9; clear hS196
          have hS198 := hS197.fr9; clear hS197
          have hS199 := hS198.fr9; clear hS198
          have hS200 : St _ _ [_, _, .fz g, _, _, .fz g2] _ := hS199.only 6; clear hS199
          refine hK44 _ _ (came (⟨s, t, o, L, g, W, ra, rc, g2⟩) (by repeat' (first | exact Agree.refl _ _ | refine Agree.up ?_ rfl | refine Agree.hav2 ?_ rfl | refine Agree.ups2 ?_ rfl)) (by refine ⟨by first | rfl | exact congrArg Value.bool (decide_eq_true (by omega)), trivial⟩) ?_)
          exact ⟨hS200, (by show s ≤ i + 1; omega), (by show s = t + o + List.length L; omega), hE, hn, hW, heq⟩
         ·
          have hnoN := no_absW hno; rw [heq] at hnoN
          refine l_e rfl (fun K hK => ?_)
          refine e_call (by kernel_rfl) (rfind_miss b9 ra rc s t o W (by omega) x29.n hno _ (hS31.blk (i := 4) rfl) (hS31.owG (i := 5) rfl)) rfl (after_R hS31 (fun v201 w201 hv201 hS201 => ?_))
          clear hS31
          obtain rfl := hv201
          refine hK _ _ ?_; clear hK K
          refine l_q rfl rfl (q_assignI rfl) ?_
          refine l_nil ?_
          refine hK174 _ _ ?_
          refine wp_seq_k (fun K202 hK202 => ?_)
          refine wp_region_lit ?_
          refine l_e rfl (fun K hK => ?_)
          refine e_alloc (zv := .agg #[.int .i64 0, .int .i64 0, .int .i64 0, .int .i64 0, .slice none 0 0]) hS201 (by kernel_rfl) (fun b203 w203 (hS203 : St _ _ [.blk b203 (.cells #[.int .i64 (0 : Int), .int .i64 (0 : Int), .int .i64 (0 : Int), .int .i64 (0 : Int), .slice none 0 0] 25), _, _, _, .fz g, _, _, .fz g2] _) => ?_)
          clear hS201
          refine hK _ _ ?_; clear hK K
          refine l_nil ?_
          refine hK202 _ _ ?_
          refine wp_seq_k (fun K204 hK204 => ?_)
          refine wp_region_lit ?_
          refine l_q rfl rfl (q_assignI rfl) ?_
          refine l_nil ?_
          refine hK204 _ _ ?_
          refine wp_seq_k (fun K205 hK205 => ?_)
          refine wp_seq_k (fun K206 hK206 => ?_)
          refine wp_region_lit ?_
          refine l_q rfl rfl (q_moveI rfl) ?_
          refine l_q rfl rfl (q_geq rfl rfl) ?_
          refine l_nil ?_
          refine hK206 _ _ ?_
          refine c_condF rfl (by decide) ?_
          refine wp_skip ?_
          refine hK205 _ _ ?_
          refine wp_seq_k (fun K208 hK208 => ?_)
          refine wp_region_lit ?_
          refine l_q rfl rfl (q_moveP rfl) ?_
          refine l_q rfl rfl (q_fieldAddr (ft := 3) (o := 1) rfl (by kernel_rfl)) ?_
          refine l_q rfl rfl (q_load1 rfl (by kernel_rfl) (hS203.cell (i := 1) rfl rfl)) ?_
          refine l_e rfl (fun K hK => ?_)
          refine e_call (by kernel_rfl) (look_any k mb s t o L hn x29.n _ (hS203.blk (i := 2) rfl) (hS203.map (i := 3) rfl) (hE.mono (hS203.fz (i := 4) rfl))) rfl (after_N hS203 (fun v209 G209 w209 hv209 hS209 => ?_))
          clear hS203
          obtain ⟨l209, b209, an209, cn209, rfl, rfl, hs209⟩ := hv209
          have hS210 : St _ _ [.ow 3 1 an209 l209.nd.length cn209 (iv l209.nd), _, _, _, _, .fz g, _, _, .fz g2] _ := hS209; clear hS209
          obtain ⟨hv209, hb209⟩ := tk_val hs209 (tkv_no hnoN)
          have hvl209 : l209.nd.length ≤ 16 := by rw [hv209]; decide
          refine hK _ _ ?_; clear hK K
          refine l_q rfl rfl (q_move rfl) ?_
          refine l_q rfl rfl (q_extract rfl rfl) ?_
          refine l_q rfl rfl (q_extract rfl rfl) ?_
          refine l_e rfl (fun K hK => ?_)
          refine e_alloc (zv := .agg #[.int .i64 0, .int .i64 0, .int .i64 0, .int .i64 0, .slice none 0 0]) hS210 (by kernel_rfl) (fun b211 w211 (hS211 : St _ _ [.blk b211 (.cells #[.int .i64 (0 : Int), .int .i64 (0 : Int), .int .i64 (0 : Int), .int .i64 (0 : Int), .slice none 0 0] 25), _, _, _, _, _, .fz g, _, _, .fz g2] _) => ?_)
          clear hS210
          refine hK _ _ ?_; clear hK K
          refine l_e rfl (fun K hK => ?_)
          refine e_storeA hS211 rfl rfl (by kernel_rfl) (by repeat' (first | exact trivial | refine ⟨by first | rfl | assumption | exact one_if (by assumption), ?_⟩)) (i := 0) rfl rfl (fun w212 (hS212 : St _ _ [.blk b211 (.cells #[.int .i64 l209.k, .int .i64 l209.f, .int .i64 l209.t, .int .i64 l209.x, .slice an209 l209.nd.length cn209] 25), _, _, _, _, _, .fz g, _, _, .fz g2] _) => ?_)
          clear hS211
          refine hK _ _ ?_; clear hK K
          refine l_q rfl rfl (q_assignI rfl) ?_
          refine l_nil ?_
          refine hK208 _ _ ?_
          refine wp_seq_k (fun K213 hK213 => ?_)
          refine wp_region_lit ?_
          refine l_q rfl rfl (q_loadA (m := 5) rfl (by kernel_rfl) (by kernel_rfl) (hS212.blk (i := 0) rfl) rfl rfl) ?_
          refine l_q rfl rfl (q_loadA (m := 5) rfl (by kernel_rfl) (by kernel_rfl) (hS212.blk (i := 2) rfl) rfl rfl) ?_
          refine l_e rfl (fun K hK => ?_)
          refine e_call (by kernel_rfl) (lsame_t l209 (Lr.mk (0 : Int) (0 : Int) (0 : Int) (0 : Int) []) l209.nd.length 0 (by first | rfl | omega) (by first | rfl | omega) (by omega) (by omega) _ _ _ _ _ (hS212.owG (i := 1) rfl) SlG.nil hv209) rfl (after_R hS212 (fun v214 w214 hv214 hS214 => ?_))
          clear hS212
          obtain rfl := hv214
          refine hK _ _ ?_; clear hK K
          refine l_q rfl rfl (q_assignB rfl) ?_
          refine l_nil ?_
          refine hK213 _ _ ?_
          refine wp_seq_k (fun K215 hK215 => ?_)
          refine wp_region_lit ?_
          refine l_q rfl rfl (q_moveB rfl) ?_
          refine l_q rfl rfl (q_moveB rfl) ?_
          refine l_on rfl rfl rfl ?_
          refine l_q rfl rfl (q_moveI rfl) ?_
          refine l_on rfl rfl rfl ?_
          refine l_q rfl rfl (q_moveI rfl) ?_
          refine l_on rfl rfl rfl ?_
          refine l_q rfl rfl (q_eql rfl rfl) ?_
          refine l_q rfl rfl (q_pickT rfl rfl rfl) ?_
          refine l_q rfl rfl (q_assignB rfl) ?_
          refine l_nil ?_
          refine hK215 _ _ ?_
          refine wp_seq_k (fun K216 hK216 => ?_)
          refine wp_region_lit ?_
          refine l_q rfl rfl (q_fieldAddr (ft := 3) (o := 0) rfl (by kernel_rfl)) ?_
          refine l_q rfl rfl (q_load1 rfl (by kernel_rfl) (hS214.cell (i := 3) rfl rfl)) ?_
          refine l_q rfl rfl (q_eql rfl rfl) ?_
          refine l_nil ?_
          refine hK216 _ _ ?_
          refine c_condF rfl (decide_eq_false (by omega)) ?_
          refine wp_skip ?_
          have hS218 := hS214.fr9; clear hS214
          have hS219 := hS218.fr9; clear hS218
          have hS220 := hS219.fr9; clear hS219
          have hS221 := hS220.fr9; clear hS220
          have hS222 := hS221.fr9; clear hS221
          have hS223 := hS222.fr9; clear hS222
          have hS224 : St _ _ [_, _, .fz g, _, _, .fz g2] _ := hS223.only 6; clear hS223
          refine hK44 _ _ (came (⟨s, t, o, L, g, W, ra, rc, g2⟩) (by repeat' (first | exact Agree.refl _ _ | refine Agree.up ?_ rfl | refine Agree.hav2 ?_ rfl | refine Agree.ups2 ?_ rfl)) (by refine ⟨by first | rfl | exact congrArg Value.bool (decide_eq_true (by omega)), trivial⟩) ?_)
          exact ⟨hS224, (by show s ≤ i + 1; omega), (by show s = t + o + List.length L; omega), hE, hn, hW, heq⟩
        ·
         have hc173b := hc173
         try simp only [decide_eq_true_eq, decide_eq_false_iff_not, Bool.not_eq_true', Bool.not_eq_false', Bool.and_eq_true, Bool.or_eq_true, Int.not_lt, Int.not_le, ne_eq, Decidable.not_not] at hc173
         refine wp_seq_k (fun K225 hK225 => ?_)
         refine wp_region_lit ?_
         refine l_q rfl rfl (q_eql rfl rfl) ?_
         refine l_q rfl rfl (q_assignB rfl) ?_
         refine l_nil ?_
         refine hK225 _ _ ?_
         refine c_cond rfl (fun hc226 => ?_) (fun hc226 => ?_)
         ·
          have hc226b := hc226
          try simp only [decide_eq_true_eq, decide_eq_false_iff_not, Bool.not_eq_true', Bool.not_eq_false', Bool.and_eq_true, Bool.or_eq_true, Int.not_lt, Int.not_le, ne_eq, Decidable.not_not] at hc226
          refine wp_seq_k (fun K227 hK227 => ?_)
          refine wp_region_lit ?_
          refine l_q rfl rfl (q_moveP rfl) ?_
          refine l_q rfl rfl (q_fieldAddr (ft := 3) (o := 1) rfl (by kernel_rfl)) ?_
          refine l_q rfl rfl (q_load1 rfl (by kernel_rfl) (hS31.cell (i := 0) rfl rfl)) ?_
          refine l_e rfl (fun K hK => ?_)
          have hS229 := hS31.fr3; clear hS31
          have hS230 := hS229.fr3; clear hS229
          have hS231 := hS230.fr3; clear hS230
          refine e_call (by kernel_rfl) (twice_any k mb s t o L g hE hn (by omega) x29.n _ (St.begin (Γ := [_, _, _]) hS231)) rfl (after_M (Γ1 := [_, _, _]) hS231 (fun v228 G228 w228 hv228 hS228 => ?_))
          clear hS231
          obtain ⟨a228, b228, L228, s228, g228, rfl, rfl, hle228, hE228, hs228⟩ := hv228
          have hS232 : St _ _ [.blk k (.cells #[.map (some mb), .int .i64 (s228 : Int), .int .i64 (t : Int), .int .i64 (o : Int)] 60), .mp (.int .i64) mb (List.map nc L228), .fz g228, _, _, _, .fz g2] _ := hS228; clear hS228
          have hn228 := (tw_grow hn hs228).2.2
          have hgr228 := tw_grow hn hs228
          have hgl228 := hgr228.2.1; have hgs228 := hgr228.1; rw [absN_len, absN_len] at hgl228
          refine hK _ _ ?_; clear hK K
          refine l_q rfl rfl (q_move rfl) ?_
          refine l_q rfl rfl (q_extract rfl rfl) ?_
          refine l_q rfl rfl (q_extract rfl rfl) ?_
          refine l_q rfl rfl (q_assignI rfl) ?_
          refine l_q rfl rfl (q_assignI rfl) ?_
          refine l_nil ?_
          refine hK227 _ _ ?_
          refine wp_seq_k (fun K233 hK233 => ?_)
          refine wp_region_lit ?_
          refine l_q rfl rfl (q_moveP rfl) ?_
          refine l_q rfl rfl (q_fieldAddr (ft := 3) (o := 1) rfl (by kernel_rfl)) ?_
          refine l_q rfl rfl (q_load1 rfl (by kernel_rfl) (hS232.cell (i := 3) rfl rfl)) ?_
          refine l_e rfl (fun K hK => ?_)
          have hS235 := hS232.fr6; clear hS232
          have hS236 := hS235.fr6; clear hS235
          have hS237 := hS236.fr6; clear hS236
          refine e_call (by kernel_rfl) (rtwice_any b9 ra rc s t o W g2 hW (by omega) (by rw [heq]; exact hn) (by omega) x29.n _ (St.begin (Γ := [_, _, _]) hS237)) rfl (after_M (Γ1 := [_, _, _]) hS237 (fun v234 G234 w234 hv234 hS234 => ?_))
          clear hS237
          obtain ⟨a234, b234, W234, s234, g234, ra234, rc234, rfl, rfl, hle234, hW234, hs234⟩ := hv234
          have hS238 : St _ _ [.blk b9 (.cells #[.slice ra234 W234.length rc234, .int .i64 (s234 : Int), .int .i64 (t : Int), .int .i64 (o : Int)] 51), .ow 54 6 ra234 W234.length rc234 (List.flatMap wc W234), .fz g234, _, _, .fz g228, _] _ := hS234; clear hS234
          have hsr234 := hs234; rw [heq] at hsr234
          obtain ⟨ea234, eb234, eA234, es234⟩ := tw_val hs228 hsr234
          rw [← es234] at hS238
          have heq234 : absW W234 = absN L228 := eA234.symm
          have hwl234 : List.length W234 = List.length L228 := by rw [← absW_len, heq234, absN_len]
          refine hK _ _ ?_; clear hK K
          refine l_q rfl rfl (q_move rfl) ?_
          refine l_q rfl rfl (q_extract rfl rfl) ?_
          refine l_q rfl rfl (q_extract rfl rfl) ?_
          refine l_q rfl rfl (q_assignI rfl) ?_
          refine l_q rfl rfl (q_assignI rfl) ?_
          refine l_nil ?_
          refine hK233 _ _ ?_
          refine wp_region_lit ?_
          refine l_q rfl rfl (q_moveI rfl) ?_
          refine l_q rfl rfl (q_moveI rfl) ?_
          refine l_q rfl rfl (q_eql rfl rfl) ?_
          refine l_q rfl rfl (q_moveB rfl) ?_
          refine g_splitL (t := 180) rfl (fun hg239 => ?_) (fun hg239 => ?_)
          ·
           have hg239b := hg239
           try simp only [decide_eq_true_eq, decide_eq_false_iff_not, Bool.not_eq_true', Bool.not_eq_false', Bool.and_eq_true, Bool.or_eq_true, Int.not_lt, Int.not_le, ne_eq, Decidable.not_not] at hg239
           refine l_on rfl rfl hg239b ?_
           refine l_q rfl rfl (q_moveI rfl) ?_
           refine l_on rfl rfl hg239b ?_
           refine l_q rfl rfl (q_moveI rfl) ?_
           refine l_on rfl rfl hg239b ?_
           refine l_q rfl rfl (q_eql rfl rfl) ?_
           refine l_q rfl rfl (q_pickT rfl hg239b rfl) ?_
           refine l_q rfl rfl (q_assignB rfl) ?_
           refine l_nil ?_
           have hS240 := hS238.fr2; clear hS238
           have hS241 := hS240.fr2; clear hS240
           have hS242 := hS241.fr2; clear hS241
           have hS243 := hS242.fr5; clear hS242
           have hS244 := hS243.fr5; clear hS243
           have hS245 := hS244.fr5; clear hS244
           have hS246 : St _ _ [_, _, .fz g228, .blk b9 (.cells #[.slice ra234 W234.length rc234, .int .i64 (s228 : Int), .int .i64 (t : Int), .int .i64 (o : Int)] 51), _, .fz g234] _ := hS245.only 6; clear hS245
           refine hK44 _ _ (came (⟨s228, t, o, L228, g228, W234, ra234, rc234, g234⟩) (by repeat' (first | exact Agree.refl _ _ | refine Agree.up ?_ rfl | refine Agree.hav2 ?_ rfl | refine Agree.ups2 ?_ rfl)) (by refine ⟨by first | rfl | exact congrArg Value.bool (decide_eq_true (by omega)), trivial⟩) ?_)
           exact ⟨hS246, (by show s228 ≤ i + 1; omega), (by show s228 = t + o + List.length L228; omega), hE228, hn228, hW234, heq234⟩
          ·
           have hg239b := hg239
           try simp only [decide_eq_true_eq, decide_eq_false_iff_not, Bool.not_eq_true', Bool.not_eq_false', Bool.and_eq_true, Bool.or_eq_true, Int.not_lt, Int.not_le, ne_eq, Decidable.not_not] at hg239
           exfalso; first | omega | exact hg239 trivial
         ·
          have hc226b := hc226
          try simp only [decide_eq_true_eq, decide_eq_false_iff_not, Bool.not_eq_true', Bool.not_eq_false', Bool.and_eq_true, Bool.or_eq_true, Int.not_lt, Int.not_le, ne_eq, Decidable.not_not] at hc226
          refine wp_seq_k (fun K247 hK247 => ?_)
          refine wp_region_lit ?_
          refine l_q rfl rfl (q_eql rfl rfl) ?_
          refine l_q rfl rfl (q_assignB rfl) ?_
          refine l_nil ?_
          refine hK247 _ _ ?_
          refine c_cond rfl (fun hc248 => ?_) (fun hc248 => ?_)
          ·
           have hc248b := hc248
           try simp only [decide_eq_true_eq, decide_eq_false_iff_not, Bool.not_eq_true', Bool.not_eq_false', Bool.and_eq_true, Bool.or_eq_true, Int.not_lt, Int.not_le, ne_eq, Decidable.not_not] at hc248
           refine r_any (by kernel_rfl) hS31 (fun w249 hS249 => ?_)
           clear hS31
           refine o_pure (i := 0) (fun _ _ => trivial) rfl rfl (by kernel_rfl) (goes0 rfl) (QOk.inBlock (QOk.then (QOk.inBlock (QOk.then (QOk.then (QOk.inBlock (QOk.then QOk.body))))))) (fun w => q_moveP rfl) ?_
           refine o_pure (i := 1) (fun _ _ => trivial) rfl rfl (by kernel_rfl) (goes0 rfl) (QOk.inBlock (QOk.then (QOk.inBlock (QOk.then (QOk.then (QOk.inBlock (QOk.then QOk.body))))))) (fun w => q_fieldAddr (ft := 3) (o := 1) rfl (by kernel_rfl)) ?_
           refine o_held (i := 2) [3, 7, 8, 9] (fun _ _ => trivial) rfl rfl (by kernel_rfl) (goes0 rfl) (QOk.inBlock (QOk.then (QOk.inBlock (QOk.then (QOk.then (QOk.inBlock (QOk.then QOk.body))))))) (q_load1 rfl (by kernel_rfl) (hS249.cell (i := 0) rfl rfl)) ?_
           refine o_pure (i := 4) (fun j w => ⟨(fun _ _ => trivial) j w, fun _ h => h⟩) rfl rfl (by kernel_rfl) (goes0 rfl) (QOk.inBlock (QOk.then (QOk.inBlock (QOk.then (QOk.then (QOk.inBlock (QOk.then QOk.body))))))) (fun w => q_moveP rfl) ?_
           refine o_pure (i := 5) (fun j w => ⟨(fun _ _ => trivial) j w, fun _ h => h⟩) rfl rfl (by kernel_rfl) (goes0 rfl) (QOk.inBlock (QOk.then (QOk.inBlock (QOk.then (QOk.then (QOk.inBlock (QOk.then QOk.body))))))) (fun w => q_fieldAddr (ft := 3) (o := 1) rfl (by kernel_rfl)) ?_
           refine o_held (i := 6) [7, 8, 9] (fun j w => ⟨(fun _ _ => trivial) j w, fun _ h => h⟩) rfl rfl (by kernel_rfl) (goes0 rfl) (QOk.inBlock (QOk.then (QOk.inBlock (QOk.then (QOk.then (QOk.inBlock (QOk.then QOk.body))))))) (q_load1 rfl (by kernel_rfl) (hS249.cell (i := 0) rfl rfl)) ?_
           refine o_eff (i := 3) (by kernel_rfl) rfl (goes0 rfl) (fun K hK => ?_)
           have hS251 := hS249.fr3; clear hS249
           have hS252 := hS251.fr3; clear hS251
           have hS253 := hS252.fr3; clear hS252
           refine e_call (by kernel_rfl) (lose_any k mb s t o L g hE hn (by omega) x29.n _ (St.begin (Γ := [_, _, _]) hS253)) rfl (after_M (Γ1 := [_, _, _]) hS253 (fun v250 G250 w250 hv250 hS250 => ?_))
           clear hS253
           obtain ⟨b250, rfl, rfl, hs250⟩ := hv250
           have hS254 : St _ _ [.blk k (.cells #[.map (some mb), .int .i64 (s : Int), .int .i64 (t : Int), .int .i64 (((o + ls (absN L) x29.n) : Nat) : Int)] 60), _, .fz g, _, _, _, .fz g2] _ := hS250; clear hS250
           have hn250 : NumOk (absN (mdel L x29.n)) s := by rw [absN_del]; exact hn.del _
           have hgl250 := ls_add (absN L) x29.n; rw [← absN_del, absN_len, absN_len] at hgl250
           refine hK _ _ ⟨⟨trivial, fun h => absurd h (by decide)⟩, fun _ _ => by first | exact q_load1 rfl (by kernel_rfl) (hS254.cell (i := 3) rfl rfl)⟩ ?_; clear hK K
           refine o_eff (i := 7) (by kernel_rfl) rfl (goes0 rfl) (fun K hK => ?_)
           have hS256 := hS254.fr6; clear hS254
           have hS257 := hS256.fr6; clear hS256
           have hS258 := hS257.fr6; clear hS257
           refine e_call (by kernel_rfl) (rlose_any b9 ra rc s t o W g2 hW (by omega) (by rw [heq]; exact hn) (by omega) x29.n _ (St.begin (Γ := [_, _, _]) hS258)) rfl (after_M (Γ1 := [_, _, _]) hS258 (fun v255 G255 w255 hv255 hS255 => ?_))
           clear hS258
           obtain ⟨b255, W255, ra255, rc255, rfl, rfl, hW255, hA255, hs255⟩ := hv255
           have hS259 : St _ _ [.blk b9 (.cells #[.slice ra255 W255.length rc255, .int .i64 (s : Int), .int .i64 (t : Int), .int .i64 (((o + ls (absW W) x29.n) : Nat) : Int)] 51), .ow 54 6 ra255 W255.length rc255 (List.flatMap wc W255), .fz g2, _, _, .fz g, _] _ := hS255; clear hS255
           have hbb255 : b250 = b255 := hs250.symm.trans (by rw [← heq]; exact hs255)
           have hlw255 : ls (absW W) x29.n = ls (absN L) x29.n := by rw [heq]
           rw [hlw255] at hS259
           have heq255 : absW W255 = absN (mdel L x29.n) := by rw [hA255, heq, absN_del]
           have hwl255 : List.length W255 = List.length (mdel L x29.n) := by rw [← absW_len, heq255, absN_len]
           refine hK _ _ ⟨⟨trivial, fun h => absurd h (by decide)⟩, fun h => absurd h (by decide)⟩ ?_; clear hK K
           refine o_pure (i := 8) (fun j w => ⟨(fun j w => ⟨(fun _ _ => trivial) j w, fun _ h => h⟩) j w, fun _ h => h⟩) rfl rfl (by kernel_rfl) (goes0 rfl) (QOk.inBlock (QOk.then (QOk.inBlock (QOk.then (QOk.then (QOk.inBlock (QOk.then QOk.body))))))) (fun w => q_eql rfl rfl) ?_
           refine o_pure (i := 9) (fun j w => ⟨(fun j w => ⟨(fun _ _ => trivial) j w, fun _ h => h⟩) j w, fun _ h => h⟩) rfl rfl (by kernel_rfl) (goes0 rfl) (QOk.inBlock (QOk.then (QOk.inBlock (QOk.then (QOk.then (QOk.inBlock (QOk.then QOk.body))))))) (fun w => q_assignB rfl) ?_
           refine o_done (by kernel_rfl) ?_
           have hS260 := hS259.fr2; clear hS259
           have hS261 := hS260.fr2; clear hS260
           have hS262 := hS261.fr2; clear hS261
           have hS263 := hS262.fr5; clear hS262
           have hS264 := hS263.fr5; clear hS263
           have hS265 := hS264.fr5; clear hS264
           have hS266 : St _ _ [_, _, .fz g, .blk b9 (.cells #[.slice ra255 W255.length rc255, .int .i64 (s : Int), .int .i64 (t : Int), .int .i64 (((o + ls (absN L) x29.n) : Nat) : Int)] 51), _, .fz g2] _ := hS265.only 6; clear hS265
           refine hK44 _ _ (came (⟨s, t, (o + ls (absN L) x29.n), (mdel L x29.n), g, W255, ra255, rc255, g2⟩) (by repeat' (first | exact Agree.refl _ _ | refine Agree.up ?_ rfl | refine Agree.hav2 ?_ rfl | refine Agree.ups2 ?_ rfl)) (by refine ⟨by first | rfl | exact congrArg Value.bool (decide_eq_true (by omega)), trivial⟩) ?_)
           exact ⟨hS266, (by show s ≤ i + 1; omega), (by show s = t + (o + ls (absN L) x29.n) + List.length (mdel L x29.n); omega), (EOk.del hE x29.n), hn250, hW255, heq255⟩
          ·
           have hc248b := hc248
           try simp only [decide_eq_true_eq, decide_eq_false_iff_not, Bool.not_eq_true', Bool.not_eq_false', Bool.and_eq_true, Bool.or_eq_true, Int.not_lt, Int.not_le, ne_eq, Decidable.not_not] at hc248
           refine wp_skip ?_
           have hS267 := hS31.fr6; clear hS31
           have hS268 := hS267.fr6; clear hS267
           have hS269 := hS268.fr6; clear hS268
           have hS270 := hS269.fr6; clear hS269
           have hS271 := hS270.fr6; clear hS270
           have hS272 := hS271.fr6; clear hS271
           have hS273 : St _ _ [_, _, .fz g, _, _, .fz g2] _ := hS272.only 6; clear hS272
           refine hK44 _ _ (came (⟨s, t, o, L, g, W, ra, rc, g2⟩) (by repeat' (first | exact Agree.refl _ _ | refine Agree.up ?_ rfl | refine Agree.hav2 ?_ rfl | refine Agree.ups2 ?_ rfl)) (by refine ⟨by first | rfl | exact congrArg Value.bool (decide_eq_true (by omega)), trivial⟩) ?_)
           exact ⟨hS273, (by show s ≤ i + 1; omega), (by show s = t + o + List.length L; omega), hE, hn, hW, heq⟩
     ·
      obtain ⟨s1, t1, o1, L1, g1, W1, ra1, rc1, gr1⟩ := x44
      obtain ⟨hS44, hsi1, hsum1, hE1, hn1, hW1, heq1⟩ := hJ44
      try dsimp only at hS44 hsi1 hsum1 hE1 hn1 hW1 heq1 ⊢
      have hwl1 : W1.length = L1.length := by rw [← absW_len, heq1, absN_len]
      refine wp_seq_k (fun K274 hK274 => ?_)
      refine wp_region_lit ?_
      refine l_q rfl rfl (q_moveP rfl) ?_
      refine l_e rfl (fun K hK => ?_)
      refine e_call (by kernel_rfl) (told_ok k mb s1 t1 o1 _ (hS44.blk (i := 0) rfl)) rfl (after_R hS44 (fun v275 w275 hv275 hS275 => ?_))
      clear hS44
      obtain rfl := hv275
      refine hK _ _ ?_; clear hK K
      refine l_q rfl rfl (q_move rfl) ?_
      refine l_q rfl rfl (q_extract rfl rfl) ?_
      refine l_q rfl rfl (q_extract rfl rfl) ?_
      refine l_q rfl rfl (q_extract rfl rfl) ?_
      refine l_q rfl rfl (q_assignI rfl) ?_
      refine l_q rfl rfl (q_assignI rfl) ?_
      refine l_q rfl rfl (q_assignI rfl) ?_
      refine l_nil ?_
      refine hK274 _ _ ?_
      refine wp_seq_k (fun K276 hK276 => ?_)
      refine wp_region_lit ?_
      refine l_q rfl rfl (q_moveP rfl) ?_
      refine l_e rfl (fun K hK => ?_)
      have hnl277 := numsW_len (absN L1) (-1); rw [absN_len] at hnl277
      refine e_call (by kernel_rfl) (nums_ok2 k mb s1 t1 o1 L1 hn1 (by omega) (by omega) _ (hS275.blk (i := 0) rfl) (hS275.map (i := 1) rfl) (hE1.mono (hS275.fz (i := 2) rfl))) rfl (after_N hS275 (fun v277 G277 w277 hv277 hS277 => ?_))
      clear hS275
      obtain ⟨ad277, cp277, rfl, rfl⟩ := hv277
      have hS278 : St _ _ [.ow 3 1 ad277 ((numsW (absN L1) (-1)).length) cp277 (iv (numsW (absN L1) (-1))), .blk k (.cells #[.map (some mb), .int .i64 (s1 : Int), .int .i64 (t1 : Int), .int .i64 (o1 : Int)] 60), .mp (.int .i64) mb (List.map nc L1), .fz g1, .blk b9 (.cells #[.slice ra1 W1.length rc1, .int .i64 (s1 : Int), .int .i64 (t1 : Int), .int .i64 (o1 : Int)] 51), .ow 54 6 ra1 W1.length rc1 (List.flatMap wc W1), .fz gr1] _ := hS277; clear hS277
      refine hK _ _ ?_; clear hK K
      refine l_q rfl rfl (q_moveP rfl) ?_
      refine l_e rfl (fun K hK => ?_)
      have hnl279 := numsW_len (absW W1) (-1); rw [absW_len] at hnl279
      refine e_call (by kernel_rfl) (rnums_ok b9 ra1 rc1 s1 t1 o1 W1 (by omega) (-1) _ (hS278.blk (i := 4) rfl) (hS278.owG (i := 5) rfl)) rfl (after_N hS278 (fun v279 G279 w279 hv279 hS279 => ?_))
      clear hS278
      obtain ⟨ad279, cp279, rfl, rfl⟩ := hv279
      have hS280 : St _ _ [.ow 3 1 ad279 ((numsW (absW W1) (-1)).length) cp279 (iv (numsW (absW W1) (-1))), _, _, _, .fz g1, _, _, .fz gr1] _ := hS279; clear hS279
      refine hK _ _ ?_; clear hK K
      refine l_e rfl (fun K hK => ?_)
      refine e_call (by kernel_rfl) (samei_t (numsW (absN L1) (-1)) (numsW (absW W1) (-1)) ((numsW (absN L1) (-1)).length) ((numsW (absW W1) (-1)).length) rfl rfl (by omega) (by omega) _ _ _ _ _ (hS280.owG (i := 1) rfl) (hS280.owG (i := 0) rfl) (by rw [heq1])) rfl (after_R hS280 (fun v281 w281 hv281 hS281 => ?_))
      clear hS280
      obtain rfl := hv281
      refine hK _ _ ?_; clear hK K
      refine l_q rfl rfl (q_assignB rfl) ?_
      refine l_nil ?_
      refine hK276 _ _ ?_
      refine wp_seq_k (fun K282 hK282 => ?_)
      refine wp_region_lit ?_
      refine l_q rfl rfl (q_moveI rfl) ?_
      refine l_q rfl rfl (q_lss rfl rfl) ?_
      refine l_q rfl rfl (q_moveB rfl) ?_
      refine g_splitL (t := 209) rfl (fun hg283 => ?_) (fun hg283 => ?_)
      ·
       have hg283b := hg283
       try simp only [decide_eq_true_eq, decide_eq_false_iff_not, Bool.not_eq_true', Bool.not_eq_false', Bool.and_eq_true, Bool.or_eq_true, Int.not_lt, Int.not_le, ne_eq, Decidable.not_not] at hg283
       refine l_off rfl rfl rfl hg283b ?_
       refine l_off rfl rfl rfl hg283b ?_
       refine l_off rfl rfl rfl hg283b ?_
       refine l_off rfl rfl rfl hg283b ?_
       refine l_off rfl rfl rfl hg283b ?_
       refine l_off rfl rfl rfl hg283b ?_
       refine l_off rfl rfl rfl hg283b ?_
       refine l_q rfl rfl (q_pickT rfl hg283b rfl) ?_
       refine l_q rfl rfl (q_assignB rfl) ?_
       refine l_nil ?_
       refine hK282 _ _ ?_
       refine wp_seq_k (fun K284 hK284 => ?_)
       refine wp_region_lit ?_
       refine l_q rfl rfl (q_moveB rfl) ?_
       refine l_q rfl rfl (q_not rfl) ?_
       refine l_q rfl rfl (q_moveB rfl) ?_
       refine l_on rfl rfl rfl ?_
       refine l_q rfl rfl (q_moveB rfl) ?_
       refine l_on rfl rfl rfl ?_
       refine l_q rfl rfl (q_not rfl) ?_
       refine l_q rfl rfl (q_pickF rfl rfl rfl) ?_
       refine l_q rfl rfl (q_moveB rfl) ?_
       refine l_on rfl rfl rfl ?_
       refine l_q rfl rfl (q_moveB rfl) ?_
       refine l_on rfl rfl rfl ?_
       refine l_q rfl rfl (q_not rfl) ?_
       refine l_q rfl rfl (q_pickF rfl rfl rfl) ?_
       refine l_q rfl rfl (q_moveB rfl) ?_
       refine l_on rfl rfl rfl ?_
       refine l_q rfl rfl (q_moveI rfl) ?_
       refine l_on rfl rfl rfl ?_
       refine l_q rfl rfl (q_moveP rfl) ?_
       refine l_on rfl rfl rfl ?_
       refine l_q rfl rfl (q_nilCheck rfl) ?_
       refine l_on rfl rfl rfl ?_
       refine l_q rfl rfl (q_fieldAddr (ft := 3) (o := 1) rfl (by kernel_rfl)) ?_
       refine l_on rfl rfl rfl ?_
       refine l_q rfl rfl (q_load1 rfl (by kernel_rfl) (hS281.cell (i := 5) rfl rfl)) ?_
       refine l_on rfl rfl rfl ?_
       refine l_q rfl rfl (q_neq rfl rfl) ?_
       refine l_q rfl rfl (q_pickF rfl rfl rfl) ?_
       refine l_q rfl rfl (q_moveB rfl) ?_
       refine g_splitL (t := 236) rfl (fun hg285 => ?_) (fun hg285 => ?_)
       ·
        have hg285b := hg285
        try simp only [decide_eq_true_eq, decide_eq_false_iff_not, Bool.not_eq_true', Bool.not_eq_false', Bool.and_eq_true, Bool.or_eq_true, Int.not_lt, Int.not_le, ne_eq, Decidable.not_not] at hg285
        exfalso; first | omega | exact hg285 trivial
       ·
        have hg285b := hg285
        try simp only [decide_eq_true_eq, decide_eq_false_iff_not, Bool.not_eq_true', Bool.not_eq_false', Bool.and_eq_true, Bool.or_eq_true, Int.not_lt, Int.not_le, ne_eq, Decidable.not_not] at hg285
        refine l_on rfl rfl hg285b ?_
        refine l_q rfl rfl (q_moveI rfl) ?_
        refine l_on rfl rfl hg285b ?_
        refine l_q rfl rfl (q_moveP rfl) ?_
        refine l_on rfl rfl hg285b ?_
        refine l_q rfl rfl (q_nilCheck rfl) ?_
        refine l_on rfl rfl hg285b ?_
        refine l_q rfl rfl (q_fieldAddr (ft := 3) (o := 2) rfl (by kernel_rfl)) ?_
        refine l_on rfl rfl hg285b ?_
        refine l_q rfl rfl (q_load1 rfl (by kernel_rfl) (hS281.cell (i := 5) rfl rfl)) ?_
        refine l_on rfl rfl hg285b ?_
        refine l_q rfl rfl (q_neq rfl rfl) ?_
        refine l_q rfl rfl (q_pickF rfl hg285b rfl) ?_
        refine l_q rfl rfl (q_moveB rfl) ?_
        refine g_splitL (t := 244) rfl (fun hg286 => ?_) (fun hg286 => ?_)
        ·
         have hg286b := hg286
         try simp only [decide_eq_true_eq, decide_eq_false_iff_not, Bool.not_eq_true', Bool.not_eq_false', Bool.and_eq_true, Bool.or_eq_true, Int.not_lt, Int.not_le, ne_eq, Decidable.not_not] at hg286
         exfalso; first | omega | exact hg286 trivial
        ·
         have hg286b := hg286
         try simp only [decide_eq_true_eq, decide_eq_false_iff_not, Bool.not_eq_true', Bool.not_eq_false', Bool.and_eq_true, Bool.or_eq_true, Int.not_lt, Int.not_le, ne_eq, Decidable.not_not] at hg286
         refine l_on rfl rfl hg286b ?_
         refine l_q rfl rfl (q_moveI rfl) ?_
         refine l_on rfl rfl hg286b ?_
         refine l_q rfl rfl (q_moveP rfl) ?_
         refine l_on rfl rfl hg286b ?_
         refine l_q rfl rfl (q_nilCheck rfl) ?_
         refine l_on rfl rfl hg286b ?_
         refine l_q rfl rfl (q_fieldAddr (ft := 3) (o := 3) rfl (by kernel_rfl)) ?_
         refine l_on rfl rfl hg286b ?_
         refine l_q rfl rfl (q_load1 rfl (by kernel_rfl) (hS281.cell (i := 5) rfl rfl)) ?_
         refine l_on rfl rfl hg286b ?_
         refine l_q rfl rfl (q_neq rfl rfl) ?_
         refine l_q rfl rfl (q_pickF rfl hg286b rfl) ?_
         refine l_nil ?_
         refine hK284 _ _ ?_
         refine c_cond rfl (fun hc287 => ?_) (fun hc287 => ?_)
         ·
          have hc287b := hc287
          try simp only [decide_eq_true_eq, decide_eq_false_iff_not, Bool.not_eq_true', Bool.not_eq_false', Bool.and_eq_true, Bool.or_eq_true, Int.not_lt, Int.not_le, ne_eq, Decidable.not_not] at hc287
          exfalso; first | omega | exact hc287 trivial
         ·
          have hc287b := hc287
          try simp only [decide_eq_true_eq, decide_eq_false_iff_not, Bool.not_eq_true', Bool.not_eq_false', Bool.and_eq_true, Bool.or_eq_true, Int.not_lt, Int.not_le, ne_eq, Decidable.not_not] at hc287
          refine wp_skip ?_
          refine hK27 _ _ ?_
          refine wp_region_lit ?_
          refine l_q rfl rfl (q_moveI rfl) ?_
          refine l_q rfl rfl (q_addx rfl rfl (by first | decide | omega) (by first | decide | omega)) ?_
          refine l_q rfl rfl (q_assignI rfl) ?_
          refine l_nil ?_
          have hS288 := hS281.fr7; clear hS281
          have hS289 := hS288.fr7; clear hS288
          have hS290 := hS289.fr7; clear hS289
          have hS291 := hS290.fr7; clear hS290
          have hS292 := hS291.fr7; clear hS291
          have hS293 := hS292.fr7; clear hS292
          have hS294 : St _ _ [_, _, .fz g1, _, _, .fz gr1] _ := hS293.only 6; clear hS293
          refine hK22 _ _ (came (⟨(i + 1), s1, t1, o1, L1, g1, W1, ra1, rc1, gr1⟩) (by repeat' (first | exact Agree.refl _ _ | refine Agree.up ?_ rfl | refine Agree.hav2 ?_ rfl | refine Agree.ups2 ?_ rfl)) (by repeat' (first | exact trivial | refine ⟨by first | rfl | exact int_succ _ | assumption, ?_⟩)) ?_)
          exact ⟨⟨hS294, (by show i + 1 ≤ 80; omega), (by show s1 ≤ i + 1; omega), (by show s1 = t1 + o1 + List.length L1; omega), hE1, hn1, hW1, heq1⟩, by (show 80 - (i + 1) < 80 - i); omega⟩
      ·
       have hg283b := hg283
       try simp only [decide_eq_true_eq, decide_eq_false_iff_not, Bool.not_eq_true', Bool.not_eq_false', Bool.and_eq_true, Bool.or_eq_true, Int.not_lt, Int.not_le, ne_eq, Decidable.not_not] at hg283
       refine l_on rfl rfl hg283b ?_
       refine l_q rfl rfl (q_moveP rfl) ?_
       refine l_on rfl rfl hg283b ?_
       refine l_q rfl rfl (q_moveI rfl) ?_
       refine l_on rfl rfl hg283b ?_
       refine l_e rfl (fun K hK => ?_)
       have hnl295 := numsW_len (absN L1) node; rw [absN_len] at hnl295
       refine e_call (by kernel_rfl) (to_ok2 k mb s1 t1 o1 L1 hn1 (by omega) (by omega) node (by omega) _ (hS281.blk (i := 2) rfl) (hS281.map (i := 3) rfl) (hE1.mono (hS281.fz (i := 4) rfl))) rfl (after_N hS281 (fun v295 G295 w295 hv295 hS295 => ?_))
       clear hS281
       obtain ⟨ad295, cp295, rfl, rfl⟩ := hv295
       have hS296 : St _ _ [.ow 3 1 ad295 ((numsW (absN L1) node).length) cp295 (iv (numsW (absN L1) node)), _, _, _, _, .fz g1, _, _, .fz gr1] _ := hS295; clear hS295
       refine hK _ _ ?_; clear hK K
       refine l_on rfl rfl hg283b ?_
       refine l_q rfl rfl (q_moveP rfl) ?_
       refine l_on rfl rfl hg283b ?_
       refine l_q rfl rfl (q_moveI rfl) ?_
       refine l_on rfl rfl hg283b ?_
       refine l_e rfl (fun K hK => ?_)
       have hnl297 := numsW_len (absW W1) node; rw [absW_len] at hnl297
       refine e_call (by kernel_rfl) (rnums_ok b9 ra1 rc1 s1 t1 o1 W1 (by omega) node _ (hS296.blk (i := 6) rfl) (hS296.owG (i := 7) rfl)) rfl (after_N hS296 (fun v297 G297 w297 hv297 hS297 => ?_))
       clear hS296
       obtain ⟨ad297, cp297, rfl, rfl⟩ := hv297
       have hS298 : St _ _ [.ow 3 1 ad297 ((numsW (absW W1) node).length) cp297 (iv (numsW (absW W1) node)), _, _, _, _, _, .fz g1, _, _, .fz gr1] _ := hS297; clear hS297
       refine hK _ _ ?_; clear hK K
       refine l_on rfl rfl hg283b ?_
       refine l_e rfl (fun K hK => ?_)
       refine e_call (by kernel_rfl) (samei_t (numsW (absN L1) node) (numsW (absW W1) node) ((numsW (absN L1) node).length) ((numsW (absW W1) node).length) rfl rfl (by omega) (by omega) _ _ _ _ _ (hS298.owG (i := 1) rfl) (hS298.owG (i := 0) rfl) (by rw [heq1])) rfl (after_R hS298 (fun v299 w299 hv299 hS299 => ?_))
       clear hS298
       obtain rfl := hv299
       refine hK _ _ ?_; clear hK K
       refine l_q rfl rfl (q_pickF rfl hg283b rfl) ?_
       refine l_q rfl rfl (q_assignB rfl) ?_
       refine l_nil ?_
       refine hK282 _ _ ?_
       refine wp_seq_k (fun K300 hK300 => ?_)
       refine wp_region_lit ?_
       refine l_q rfl rfl (q_moveB rfl) ?_
       refine l_q rfl rfl (q_not rfl) ?_
       refine l_q rfl rfl (q_moveB rfl) ?_
       refine l_on rfl rfl rfl ?_
       refine l_q rfl rfl (q_moveB rfl) ?_
       refine l_on rfl rfl rfl ?_
       refine l_q rfl rfl (q_not rfl) ?_
       refine l_q rfl rfl (q_pickF rfl rfl rfl) ?_
       refine l_q rfl rfl (q_moveB rfl) ?_
       refine l_on rfl rfl rfl ?_
       refine l_q rfl rfl (q_moveB rfl) ?_
       refine l_on rfl rfl rfl ?_
       refine l_q rfl rfl (q_not rfl) ?_
       refine l_q rfl rfl (q_pickF rfl rfl rfl) ?_
       refine l_q rfl rfl (q_moveB rfl) ?_
       refine l_on rfl rfl rfl ?_
       refine l_q rfl rfl (q_moveI rfl) ?_
       refine l_on rfl rfl rfl ?_
       refine l_q rfl rfl (q_moveP rfl) ?_
       refine l_on rfl rfl rfl ?_
       refine l_q rfl rfl (q_nilCheck rfl) ?_
       refine l_on rfl rfl rfl ?_
       refine l_q rfl rfl (q_fieldAddr (ft := 3) (o := 1) rfl (by kernel_rfl)) ?_
       refine l_on rfl rfl rfl ?_
       refine l_q rfl rfl (q_load1 rfl (by kernel_rfl) (hS299.cell (i := 7) rfl rfl)) ?_
       refine l_on rfl rfl rfl ?_
       refine l_q rfl rfl (q_neq rfl rfl) ?_
       refine l_q rfl rfl (q_pickF rfl rfl rfl) ?_
       refine l_q rfl rfl (q_moveB rfl) ?_
       refine g_splitL (t := 236) rfl (fun hg301 => ?_) (fun hg301 => ?_)
       ·
        have hg301b := hg301
        try simp only [decide_eq_true_eq, decide_eq_false_iff_not, Bool.not_eq_true', Bool.not_eq_false', Bool.and_eq_true, Bool.or_eq_true, Int.not_lt, Int.not_le, ne_eq, Decidable.not_not] at hg301
        exfalso; first | omega | exact hg301 trivial
       ·
        have hg301b := hg301
        try simp only [decide_eq_true_eq, decide_eq_false_iff_not, Bool.not_eq_true', Bool.not_eq_false', Bool.and_eq_true, Bool.or_eq_true, Int.not_lt, Int.not_le, ne_eq, Decidable.not_not] at hg301
        refine l_on rfl rfl hg301b ?_
        refine l_q rfl rfl (q_moveI rfl) ?_
        refine l_on rfl rfl hg301b ?_
        refine l_q rfl rfl (q_moveP rfl) ?_
        refine l_on rfl rfl hg301b ?_
        refine l_q rfl rfl (q_nilCheck rfl) ?_
        refine l_on rfl rfl hg301b ?_
        refine l_q rfl rfl (q_fieldAddr (ft := 3) (o := 2) rfl (by kernel_rfl)) ?_
        refine l_on rfl rfl hg301b ?_
        refine l_q rfl rfl (q_load1 rfl (by kernel_rfl) (hS299.cell (i := 7) rfl rfl)) ?_
        refine l_on rfl rfl hg301b ?_
        refine l_q rfl rfl (q_neq rfl rfl) ?_
        refine l_q rfl rfl (q_pickF rfl hg301b rfl) ?_
        refine l_q rfl rfl (q_moveB rfl) ?_
        refine g_splitL (t := 244) rfl (fun hg302 => ?_) (fun hg302 => ?_)
        ·
         have hg302b := hg302
         try simp only [decide_eq_true_eq, decide_eq_false_iff_not, Bool.not_eq_true', Bool.not_eq_false', Bool.and_eq_true, Bool.or_eq_true, Int.not_lt, Int.not_le, ne_eq, Decidable.not_not] at hg302
         exfalso; first | omega | exact hg302 trivial
        ·
         have hg302b := hg302
         try simp only [decide_eq_true_eq, decide_eq_false_iff_not, Bool.not_eq_true', Bool.not_eq_false', Bool.and_eq_true, Bool.or_eq_true, Int.not_lt, Int.not_le, ne_eq, Decidable.not_not] at hg302
         refine l_on rfl rfl hg302b ?_
         refine l_q rfl rfl (q_moveI rfl) ?_
         refine l_on rfl rfl hg302b ?_
         refine l_q rfl rfl (q_moveP rfl) ?_
         refine l_on rfl rfl hg302b ?_
         refine l_q rfl rfl (q_nilCheck rfl) ?_
         refine l_on rfl rfl hg302b ?_
         refine l_q rfl rfl (q_fieldAddr (ft := 3) (o := 3) rfl (by kernel_rfl)) ?_
         refine l_on rfl rfl hg302b ?_
         refine l_q rfl rfl (q_load1 rfl (by kernel_rfl) (hS299.cell (i := 7) rfl rfl)) ?_
         refine l_on rfl rfl hg302b ?_
         refine l_q rfl rfl (q_neq rfl rfl) ?_
         refine l_q rfl rfl (q_pickF rfl hg302b rfl) ?_
         refine l_nil ?_
         refine hK300 _ _ ?_
         refine c_cond rfl (fun hc303 => ?_) (fun hc303 => ?_)
         ·
          have hc303b := hc303
          try simp only [decide_eq_true_eq, decide_eq_false_iff_not, Bool.not_eq_true', Bool.not_eq_false', Bool.and_eq_true, Bool.or_eq_true, Int.not_lt, Int.not_le, ne_eq, Decidable.not_not] at hc303
          exfalso; first | omega | exact hc303 trivial
         ·
          have hc303b := hc303
          try simp only [decide_eq_true_eq, decide_eq_false_iff_not, Bool.not_eq_true', Bool.not_eq_false', Bool.and_eq_true, Bool.or_eq_true, Int.not_lt, Int.not_le, ne_eq, Decidable.not_not] at hc303
          refine wp_skip ?_
          refine hK27 _ _ ?_
          refine wp_region_lit ?_
          refine l_q rfl rfl (q_moveI rfl) ?_
          refine l_q rfl rfl (q_addx rfl rfl (by first | decide | omega) (by first | decide | omega)) ?_
          refine l_q rfl rfl (q_assignI rfl) ?_
          refine l_nil ?_
          have hS304 := hS299.fr9; clear hS299
          have hS305 := hS304.fr9; clear hS304
          have hS306 := hS305.fr9; clear hS305
          have hS307 := hS306.fr9; clear hS306
          have hS308 := hS307.fr9; clear hS307
          have hS309 := hS308.fr9; clear hS308
          have hS310 : St _ _ [_, _, .fz g1, _, _, .fz gr1] _ := hS309.only 6; clear hS309
          refine hK22 _ _ (came (⟨(i + 1), s1, t1, o1, L1, g1, W1, ra1, rc1, gr1⟩) (by repeat' (first | exact Agree.refl _ _ | refine Agree.up ?_ rfl | refine Agree.hav2 ?_ rfl | refine Agree.ups2 ?_ rfl)) (by repeat' (first | exact trivial | refine ⟨by first | rfl | exact int_succ _ | assumption, ?_⟩)) ?_)
          exact ⟨⟨hS310, (by show i + 1 ≤ 80; omega), (by show s1 ≤ i + 1; omega), (by show s1 = t1 + o1 + List.length L1; omega), hE1, hn1, hW1, heq1⟩, by (show 80 - (i + 1) < 80 - i); omega⟩
   ·
    have hc26b := hc26
    try simp only [decide_eq_true_eq, decide_eq_false_iff_not, Bool.not_eq_true', Bool.not_eq_false', Bool.and_eq_true, Bool.or_eq_true, Int.not_lt, Int.not_le, ne_eq, Decidable.not_not] at hc26
    refine wp_exit ?_
    refine hK13 _ _ ?_
    refine wp_seq_k (fun K311 hK311 => ?_)
    refine wp_region_lit ?_
    refine l_e rfl (fun K hK => ?_)
    refine e_call (by kernel_rfl) (alive12_ok _) rfl (after_R hS22 (fun v312 w312 hv312 hS312 => ?_))
    clear hS22
    obtain rfl := hv312
    refine hK _ _ ?_; clear hK K
    refine l_q rfl rfl (q_assignB rfl) ?_
    refine l_nil ?_
    refine hK311 _ _ ?_
    refine wp_ret ?_
    refine c_ret1 rfl rfl ?_
    first | exact ⟨_, rfl, rfl, hS312.drop⟩ | exact ⟨_, rfl, congrArg Value.bool (decide_eq_true (by omega)), hS312.drop⟩
  ·
   have hg25b := hg25
   try simp only [decide_eq_true_eq, decide_eq_false_iff_not, Bool.not_eq_true', Bool.not_eq_false', Bool.and_eq_true, Bool.or_eq_true, Int.not_lt, Int.not_le, ne_eq, Decidable.not_not] at hg25
   refine l_off rfl rfl rfl hg25b ?_
   refine l_off rfl rfl rfl hg25b ?_
   refine l_q rfl rfl (q_pickF rfl hg25b rfl) ?_
   refine l_nil ?_
   refine hK24 _ _ ?_
   refine c_condF rfl rfl ?_
   refine wp_exit ?_
   refine hK13 _ _ ?_
   refine wp_seq_k (fun K314 hK314 => ?_)
   refine wp_region_lit ?_
   refine l_e rfl (fun K hK => ?_)
   refine e_call (by kernel_rfl) (alive12_ok _) rfl (after_R hS22 (fun v315 w315 hv315 hS315 => ?_))
   clear hS22
   obtain rfl := hv315
   refine hK _ _ ?_; clear hK K
   refine l_q rfl rfl (q_assignB rfl) ?_
   refine l_nil ?_
   refine hK314 _ _ ?_
   refine wp_ret ?_
   refine c_ret1 rfl rfl ?_
   first | exact ⟨_, rfl, rfl, hS315.drop⟩ | exact ⟨_, rfl, congrArg Value.bool (decide_eq_true (by omega)), hS315.drop⟩

end Go.Proofs.Ytlplhlncdfhhoaa
