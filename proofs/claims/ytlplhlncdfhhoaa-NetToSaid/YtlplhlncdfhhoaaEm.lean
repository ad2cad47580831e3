/- NetTo. -/
import Derived.Test.YtlplhlncdfhhoaaEo
import Derived.Test.YtlplhlncdfhhoaaH
set_option linter.unusedVariables false
set_option linter.unusedSimpArgs false
namespace Go.Proofs.Ytlplhlncdfhhoaa
open Go.RowKit
/-- How many are to a node below m. -/
def cntT (A : List (Int × Lr)) (m : Nat) : Nat := (A.filter fun q => decide (q.2.t < (m : Int))).length
theorem cntT_zero {A : List (Int × Lr)} (h : ∀ q ∈ A, 0 ≤ q.2.t ∧ q.2.t < 16) : cntT A 0 = 0 := by
  unfold cntT
  rw [List.filter_eq_nil_iff.2 fun q hq => by have := h q hq; simp; omega]; rfl
theorem cntT_all {A : List (Int × Lr)} (h : ∀ q ∈ A, 0 ≤ q.2.t ∧ q.2.t < 16) : cntT A 16 = A.length := by
  unfold cntT
  rw [List.filter_eq_self.2 fun q hq => by have := h q hq; simp; omega]
theorem cntT_succ (A : List (Int × Lr)) (m : Nat) : cntT A (m + 1) = cntT A m + (numsW A ((m : Nat) : Int)).length := by
  unfold cntT numsW
  rw [List.length_map]
  induction A with
  | nil => rfl
  | cons a A ih =>
    rw [List.filter_cons, List.filter_cons, List.filter_cons]
    by_cases h1 : a.2.t < (m : Int)
    · rw [if_pos (decide_eq_true (by omega)), if_pos (decide_eq_true h1), if_neg (by simp; omega), List.length_cons, List.length_cons, ih]; omega
    · by_cases h2 : a.2.t = (m : Int)
      · rw [if_pos (decide_eq_true (by omega)), if_neg (by simp; omega), if_pos (by simp; omega), List.length_cons, List.length_cons, ih]; omega
      · rw [if_neg (by simp; omega), if_neg (by simp; omega), if_neg (by simp; omega), ih]
theorem tos_ok {g : Gh} {L : List (Int × Ent)} (h : EOk g L) : ∀ q ∈ absN L, 0 ≤ q.2.t ∧ q.2.t < 16 := fun q hq => by
  obtain ⟨x, hx, rfl⟩ := List.mem_map.1 hq
  have := (rightL_iff.1 (h x hx).2.1).1
  exact ⟨this.2.2.2.2.1, this.2.2.2.2.2.1⟩
theorem numsW_mem {A : List (Int × Lr)} {m x : Int} (h0 : 0 ≤ m) (h : x ∈ numsW A m) : ∃ l, (x, l) ∈ A ∧ l.t = m := by
  unfold numsW at h
  obtain ⟨q, hq, rfl⟩ := List.mem_map.1 h
  obtain ⟨h1, h2⟩ := List.mem_filter.1 hq
  exact ⟨q.2, h1, by simp at h2; omega⟩
theorem numsW_rise {A : List (Int × Lr)} {s : Nat} (h : NumOk A s) (m : Int) : (numsW A m).Pairwise (· < ·) := by
  unfold numsW
  rw [List.pairwise_map]; exact h.1.filter _
theorem rise_at {l : List Int} (h : l.Pairwise (· < ·)) {i j : Nat} {x y : Int} (hx : l[i]? = some x) (hy : l[j]? = some y) (hij : i < j) : x < y := by
  obtain ⟨h1, rfl⟩ := List.getElem?_eq_some_iff.1 hx
  obtain ⟨h2, rfl⟩ := List.getElem?_eq_some_iff.1 hy
  exact List.pairwise_iff_getElem.1 h _ _ h1 h2 hij
theorem last_at {L : List (Int × Ent)} {k : Nat} {x : Int} (hx : (List.map Prod.fst L)[k]? = some x) : ∃ l, (absN L)[k]? = some (x, l) := by
  unfold absN
  rw [List.getElem?_map] at hx ⊢
  cases h : L[k]? with
  | none => rw [h] at hx; cases hx
  | some q => rw [h] at hx; injection hx with hx; subst hx; exact ⟨q.2.l, rfl⟩
theorem take_last {A : List (Int × Lr)} {k : Nat} {x : Int} {l : Lr} (h : A[k]? = some (x, l)) : A.take (k + 1) = A.take k ++ [(x, l)] := by rw [List.take_add_one, h]; rfl
theorem mdel_last {B : List (Int × Lr)} {s : Nat} {x : Int} {l : Lr} (h : NumOk (B ++ [(x, l)]) s) : mdel (B ++ [(x, l)]) x = B := by
  have hp := (List.pairwise_append.1 h.1).2.2
  unfold mdel
  rw [List.filter_append, List.filter_eq_self.2 fun q hq => by have := hp q hq (x, l) (.head _); simp only at this; simp; omega]
  simp
attribute [local irreducible] Oper.wp Sem.run Code.wp wpList wpAnyO callFunc execOp Calls
attribute [local irreducible] toU short rencs renc rowE encRow rightB zig unzig decRw rightL risB lastN bitsOf nodesTo encL encLE sameL snd numsW sameI toOf badT tkv ls twN

set_option maxRecDepth 100000 in
theorem netTo_ok (sc : List A12) (sa : Option Addr) (cp : Nat) (w : World) (hsG : SlG (hw w) sa (List.flatMap ac12 sc)) (hsB : ∀ a ∈ sc, SlG (hw w) a.ad (iv a.l.nd)) : Calls Try.prog 6 #[.slice sa sc.length cp] w (PostR w fun v => v = .bool true) := by
 have hS := St.start w
 refine c_enter Try.func6 rfl rfl rfl ?_
 refine wp_seq_k (fun K1 hK1 => ?_)
 refine wp_region_lit ?_
 refine l_q rfl rfl (q_assignB rfl) ?_
 refine l_nil ?_
 refine hK1 _ _ ?_
 refine wp_seq_k (fun K2 hK2 => ?_)
 refine wp_region_lit ?_
 refine l_e rfl (fun K hK => ?_)
 refine e_call (by kernel_rfl) (nnew_ok _) rfl (after_N hS (fun v3 G3 w3 hv3 hS3 => ?_))
 clear hS
 obtain ⟨k, mb, rfl, rfl⟩ := hv3
 have hS4 : St _ _ [.blk k (.cells #[.map (some mb), .int .i64 ((0 : Nat) : Int), .int .i64 ((0 : Nat) : Int), .int .i64 ((0 : Nat) : Int)] 60), .mp (.int .i64) mb (List.map nc [])] _ := hS3; clear hS3
 have hS5 := hS4.fz0; clear hS4
 have hS6 := hS5.fr2; clear hS5
 have hS7 := hS6.fr2; clear hS6
 obtain ⟨L0, hL0⟩ : ∃ L : List (Int × Ent), L = [] := ⟨[], rfl⟩
 rw [← hL0] at hS7
 have hE0 : EOk (fun _ => none) L0 := by rw [hL0]; exact EOk.nil
 have hn0 : NumOk (absN L0) 0 := by rw [hL0]; exact NumOk.nil 0
 have hl0 : L0.length = 0 := by rw [hL0]; rfl
 refine hK _ _ ?_; clear hK K
 refine l_q rfl rfl (q_assignP rfl) ?_
 refine l_nil ?_
 refine hK2 _ _ ?_
 refine wp_seq_k (fun K8 hK8 => ?_)
 refine wp_seq_k (fun K9 hK9 => ?_)
 refine wp_region_lit ?_
 refine l_q rfl rfl (q_moveP rfl) ?_
 refine l_q rfl rfl (q_peq rfl (by kernel_rfl)) ?_
 refine l_nil ?_
 refine hK9 _ _ ?_
 refine c_condF rfl rfl ?_
 refine wp_skip ?_
 refine hK8 _ _ ?_
 refine wp_seq_k (fun K11 hK11 => ?_)
 refine wp_seq_k (fun K12 hK12 => ?_)
 refine wp_region_lit ?_
 refine l_q rfl rfl (q_assignI rfl) ?_
 refine l_nil ?_
 refine hK12 _ _ ?_
 refine wp_block ?_
 refine c_loop (τ := Nat × Nat × (List (Int × Ent)) × Gh) [(4, 4), (18, 50)] (fun x => (fun (i : Nat) (s : Nat) (L : List (Int × Ent)) (g : Gh) => [(4, .int .i64 (i : Int))]) x.1 x.2.1 x.2.2.1 x.2.2.2) (fun x w' => (fun (i : Nat) (s : Nat) (L : List (Int × Ent)) (g : Gh) => St w (fun _ => False) [.blk k (.cells #[.map (some mb), .int .i64 (s : Int), .int .i64 ((0 : Nat) : Int), .int .i64 ((0 : Nat) : Int)] 60), .mp (.int .i64) mb (List.map nc L), .fz g] w' ∧ i ≤ 80 ∧ s ≤ i ∧ L.length = s ∧ EOk g L ∧ NumOk (absN L) s) x.1 x.2.1 x.2.2.1 x.2.2.2) (fun x => (fun (i : Nat) (s : Nat) (L : List (Int × Ent)) (g : Gh) => 80 - i) x.1 x.2.1 x.2.2.1 x.2.2.2) (⟨0, 0, L0, (fun _ => none)⟩) ?_ (by repeat' (first | exact trivial | refine ⟨by first | rfl | exact int_succ _ | assumption, ?_⟩)) (fun x13 j13 w13 hJ13 K13 hK13 => ?_)
 ·
  exact ⟨hS7, (by show 0 ≤ 80; omega), (by show 0 ≤ 0; omega), (by show L0.length = 0; omega), hE0, hn0⟩
 ·
  obtain ⟨i, s, L, g⟩ := x13
  obtain ⟨hS13, hi, hsi, hsl, hE, hn⟩ := hJ13
  try dsimp only at hS13 hi hsi hsl hE hn ⊢
  refine wp_seq_k (fun K14 hK14 => ?_)
  refine wp_seq_k (fun K15 hK15 => ?_)
  refine wp_region_lit ?_
  refine l_q rfl rfl (q_moveI rfl) ?_
  refine l_q rfl rfl (q_moveS rfl) ?_
  refine l_q rfl rfl (q_lenSl (e := 43) rfl (by kernel_rfl)) ?_
  refine l_q rfl rfl (q_lss rfl rfl) ?_
  refine l_q rfl rfl (q_moveB rfl) ?_
  refine g_splitL (t := 22) rfl (fun hg16 => ?_) (fun hg16 => ?_)
  ·
   have hg16b := hg16
   try simp only [decide_eq_true_eq, decide_eq_false_iff_not, Bool.not_eq_true', Bool.not_eq_false', Bool.and_eq_true, Bool.or_eq_true, Int.not_lt, Int.not_le, ne_eq, Decidable.not_not] at hg16
   refine l_on rfl rfl hg16b ?_
   refine l_q rfl rfl (q_moveI rfl) ?_
   refine l_on rfl rfl hg16b ?_
   refine l_q rfl rfl (q_lss rfl rfl) ?_
   refine l_q rfl rfl (q_pickT rfl hg16b rfl) ?_
   refine l_nil ?_
   refine hK15 _ _ ?_
   refine c_cond rfl (fun hc17 => ?_) (fun hc17 => ?_)
   ·
    have hc17b := hc17
    try simp only [decide_eq_true_eq, decide_eq_false_iff_not, Bool.not_eq_true', Bool.not_eq_false', Bool.and_eq_true, Bool.or_eq_true, Int.not_lt, Int.not_le, ne_eq, Decidable.not_not] at hc17
    refine wp_skip ?_
    refine hK14 _ _ ?_
    refine wp_seq_k (fun K18 hK18 => ?_)
    refine wp_block ?_
    refine wp_seq_k (fun K19 hK19 => ?_)
    refine wp_region_lit ?_
    refine l_q rfl rfl (q_moveS rfl) ?_
    refine l_q rfl rfl (q_moveI rfl) ?_
    refine l_q rfl rfl (q_ixG (e := 43) (m := 7) (j := i) rfl rfl (by kernel_rfl) (by kernel_rfl) (by first | rfl | omega) (by omega) hsG (by rw [rows_len (c := ac12) (m := 7) (fun _ => rfl)]; first | omega | (simp only [List.length_append, List.length_map, List.length_cons, List.length_nil, List.length_take, List.length_drop, List.length_set] <;> omega))) ?_
    refine l_q rfl rfl (q_fieldG (ft := 25) (o := 2) rfl (by kernel_rfl)) ?_
    refine l_q rfl rfl (q_fieldG (ft := 23) (o := 4) rfl (by kernel_rfl)) ?_
    obtain ⟨x20, hx20⟩ : ∃ x, (sc)[i]? = some x := ⟨_, List.getElem?_eq_getElem (by first | omega | (simp only [List.length_append, List.length_map, List.length_cons, List.length_nil, List.length_take, List.length_drop, List.length_set] <;> omega) | (simp <;> omega))⟩
    refine l_q rfl rfl (q_load1 rfl (by kernel_rfl) (SlG.cell (hsG.mono hS13.base) (Gle.refl _) (row_at hx20 (c := ac12) (m := 7) (fun _ => rfl) (j := 6) rfl))) ?_
    refine l_q rfl rfl (q_lenSl (e := 3) rfl (by kernel_rfl)) ?_
    refine l_q rfl rfl (q_leq rfl rfl) ?_
    refine l_q rfl rfl (q_moveB rfl) ?_
    refine g_splitL (t := 36) rfl (fun hg21 => ?_) (fun hg21 => ?_)
    ·
     have hg21b := hg21
     try simp only [decide_eq_true_eq, decide_eq_false_iff_not, Bool.not_eq_true', Bool.not_eq_false', Bool.and_eq_true, Bool.or_eq_true, Int.not_lt, Int.not_le, ne_eq, Decidable.not_not] at hg21
     refine l_on rfl rfl hg21b ?_
     refine l_q rfl rfl (q_moveS rfl) ?_
     refine l_on rfl rfl hg21b ?_
     refine l_q rfl rfl (q_moveI rfl) ?_
     refine l_on rfl rfl hg21b ?_
     refine l_q rfl rfl (q_ixG (e := 43) (m := 7) (j := i) rfl rfl (by kernel_rfl) (by kernel_rfl) (by first | rfl | omega) (by omega) hsG (by rw [rows_len (c := ac12) (m := 7) (fun _ => rfl)]; first | omega | (simp only [List.length_append, List.length_map, List.length_cons, List.length_nil, List.length_take, List.length_drop, List.length_set] <;> omega))) ?_
     refine l_on rfl rfl hg21b ?_
     refine l_q rfl rfl (q_fieldG (ft := 3) (o := 0) rfl (by kernel_rfl)) ?_
     refine l_on rfl rfl hg21b ?_
     refine l_q rfl rfl (q_load1 rfl (by kernel_rfl) (SlG.cell (hsG.mono hS13.base) (Gle.refl _) (row_at hx20 (c := ac12) (m := 7) (fun _ => rfl) (j := 0) rfl))) ?_
     refine l_on rfl rfl hg21b ?_
     refine l_q rfl rfl (q_eql rfl rfl) ?_
     refine l_q rfl rfl (q_pickT rfl hg21b rfl) ?_
     refine l_nil ?_
     refine hK19 _ _ ?_
     refine c_cond rfl (fun hc22 => ?_) (fun hc22 => ?_)
     ·
      have hc22b := hc22
      try simp only [decide_eq_true_eq, decide_eq_false_iff_not, Bool.not_eq_true', Bool.not_eq_false', Bool.and_eq_true, Bool.or_eq_true, Int.not_lt, Int.not_le, ne_eq, Decidable.not_not] at hc22
      refine wp_region_lit ?_
      refine l_q rfl rfl (q_moveP rfl) ?_
      refine l_q rfl rfl (q_moveS rfl) ?_
      refine l_q rfl rfl (q_moveI rfl) ?_
      refine l_q rfl rfl (q_ixG (e := 43) (m := 7) (j := i) rfl rfl (by kernel_rfl) (by kernel_rfl) (by first | rfl | omega) (by omega) hsG (by rw [rows_len (c := ac12) (m := 7) (fun _ => rfl)]; first | omega | (simp only [List.length_append, List.length_map, List.length_cons, List.length_nil, List.length_take, List.length_drop, List.length_set] <;> omega))) ?_
      refine l_q rfl rfl (q_fieldG (ft := 25) (o := 2) rfl (by kernel_rfl)) ?_
      refine l_q rfl rfl (q_loadGA (m := 5) rfl (by kernel_rfl) (by kernel_rfl) (hsG.mono hS13.base) (row_sub hx20 (c := ac12) (m := 7) (fun _ => rfl) rfl rfl) rfl (by decide)) ?_
      refine l_e rfl (fun K hK => ?_)
      refine e_call (by kernel_rfl) (send_any k mb s 0 0 L g hE hn (by omega) x20.l x20.l.nd.length (by first | rfl | omega) (by omega) x20.ad x20.cap _ _ (St.rogB (Γ1 := [_, _, _]) hS13) (hsB x20 (List.mem_of_getElem? hx20)) (St.begin (Γ := [_, _, _]) hS13)) rfl (after_M (Γ1 := [_, _, _]) hS13 (fun v23 G23 w23 hv23 hS23 => ?_))
      clear hS13
      obtain ⟨a23, b23, L23, s23, g23, rfl, rfl, hle23, hE23, hs23⟩ := hv23
      have hS24 : St _ _ [.blk k (.cells #[.map (some mb), .int .i64 (s23 : Int), .int .i64 ((0 : Nat) : Int), .int .i64 ((0 : Nat) : Int)] 60), .mp (.int .i64) mb (List.map nc L23), .fz g23] _ := hS23; clear hS23
      have hn23 := hn.snd' hs23
      have hgr23 := snd_grow hs23
      have hgl23 := hgr23.2.1; have hgs23 := hgr23.1; rw [absN_len, absN_len] at hgl23
      refine hK _ _ ?_; clear hK K
      refine l_nil ?_
      refine hK18 _ _ ?_
      refine wp_region_lit ?_
      refine l_q rfl rfl (q_moveI rfl) ?_
      refine l_q rfl rfl (q_addx rfl rfl (by first | decide | omega) (by first | decide | omega)) ?_
      refine l_q rfl rfl (q_assignI rfl) ?_
      refine l_nil ?_
      refine hK13 _ _ (came (⟨(i + 1), s23, L23, g23⟩) (by repeat' (first | exact Agree.refl _ _ | refine Agree.up ?_ rfl | refine Agree.hav2 ?_ rfl | refine Agree.ups2 ?_ rfl)) (by repeat' (first | exact trivial | refine ⟨by first | rfl | exact int_succ _ | assumption, ?_⟩)) ?_)
      exact ⟨⟨hS24, (by show i + 1 ≤ 80; omega), (by show s23 ≤ i + 1; omega), (by show List.length L23 = s23; omega), hE23, hn23⟩, by (show 80 - (i + 1) < 80 - i); omega⟩
     ·
      have hc22b := hc22
      try simp only [decide_eq_true_eq, decide_eq_false_iff_not, Bool.not_eq_true', Bool.not_eq_false', Bool.and_eq_true, Bool.or_eq_true, Int.not_lt, Int.not_le, ne_eq, Decidable.not_not] at hc22
      refine wp_skip ?_
      refine hK18 _ _ ?_
      refine wp_region_lit ?_
      refine l_q rfl rfl (q_moveI rfl) ?_
      refine l_q rfl rfl (q_addx rfl rfl (by first | decide | omega) (by first | decide | omega)) ?_
      refine l_q rfl rfl (q_assignI rfl) ?_
      refine l_nil ?_
      refine hK13 _ _ (came (⟨(i + 1), s, L, g⟩) (by repeat' (first | exact Agree.refl _ _ | refine Agree.up ?_ rfl | refine Agree.hav2 ?_ rfl | refine Agree.ups2 ?_ rfl)) (by repeat' (first | exact trivial | refine ⟨by first | rfl | exact int_succ _ | assumption, ?_⟩)) ?_)
      exact ⟨⟨hS13, (by show i + 1 ≤ 80; omega), (by show s ≤ i + 1; omega), (by show List.length L = s; omega), hE, hn⟩, by (show 80 - (i + 1) < 80 - i); omega⟩
    ·
     have hg21b := hg21
     try simp only [decide_eq_true_eq, decide_eq_false_iff_not, Bool.not_eq_true', Bool.not_eq_false', Bool.and_eq_true, Bool.or_eq_true, Int.not_lt, Int.not_le, ne_eq, Decidable.not_not] at hg21
     refine l_off rfl rfl rfl hg21b ?_
     refine l_off rfl rfl rfl hg21b ?_
     refine l_off rfl rfl rfl hg21b ?_
     refine l_off rfl rfl rfl hg21b ?_
     refine l_off rfl rfl rfl hg21b ?_
     refine l_off rfl rfl rfl hg21b ?_
     refine l_q rfl rfl (q_pickF rfl hg21b rfl) ?_
     refine l_nil ?_
     refine hK19 _ _ ?_
     refine c_condF rfl rfl ?_
     refine wp_skip ?_
     refine hK18 _ _ ?_
     refine wp_region_lit ?_
     refine l_q rfl rfl (q_moveI rfl) ?_
     refine l_q rfl rfl (q_addx rfl rfl (by first | decide | omega) (by first | decide | omega)) ?_
     refine l_q rfl rfl (q_assignI rfl) ?_
     refine l_nil ?_
     refine hK13 _ _ (came (⟨(i + 1), s, L, g⟩) (by repeat' (first | exact Agree.refl _ _ | refine Agree.up ?_ rfl | refine Agree.hav2 ?_ rfl | refine Agree.ups2 ?_ rfl)) (by repeat' (first | exact trivial | refine ⟨by first | rfl | exact int_succ _ | assumption, ?_⟩)) ?_)
     exact ⟨⟨hS13, (by show i + 1 ≤ 80; omega), (by show s ≤ i + 1; omega), (by show List.length L = s; omega), hE, hn⟩, by (show 80 - (i + 1) < 80 - i); omega⟩
   ·
    have hc17b := hc17
    try simp only [decide_eq_true_eq, decide_eq_false_iff_not, Bool.not_eq_true', Bool.not_eq_false', Bool.and_eq_true, Bool.or_eq_true, Int.not_lt, Int.not_le, ne_eq, Decidable.not_not] at hc17
    refine wp_exit ?_
    refine hK11 _ _ ?_
    refine wp_seq_k (fun K26 hK26 => ?_)
    refine wp_region_lit ?_
    refine l_q rfl rfl (q_moveP rfl) ?_
    refine l_e rfl (fun K hK => ?_)
    have hlm27 : (List.map Prod.fst L).length = L.length := List.length_map _
    refine e_call (by kernel_rfl) (nums_ok k mb s 0 0 L hn (by omega) (by omega) _ (hS13.blk (i := 0) rfl) (hS13.map (i := 1) rfl) (hE.mono (hS13.fz (i := 2) rfl))) rfl (after_N hS13 (fun v27 G27 w27 hv27 hS27 => ?_))
    clear hS13
    obtain ⟨ad27, cp27, rfl, rfl⟩ := hv27
    have hS28 : St _ _ [.ow 3 1 ad27 ((List.map Prod.fst L).length) cp27 (iv (List.map Prod.fst L)), .blk k (.cells #[.map (some mb), .int .i64 (s : Int), .int .i64 ((0 : Nat) : Int), .int .i64 ((0 : Nat) : Int)] 60), .mp (.int .i64) mb (List.map nc L), .fz g] _ := hS27; clear hS27
    refine hK _ _ ?_; clear hK K
    refine l_q rfl rfl (q_assignS rfl) ?_
    refine l_nil ?_
    refine hK26 _ _ ?_
    refine wp_seq_k (fun K29 hK29 => ?_)
    refine wp_region_lit ?_
    refine l_q rfl rfl (q_assignI rfl) ?_
    refine l_nil ?_
    refine hK29 _ _ ?_
    refine wp_seq_k (fun K30 hK30 => ?_)
    refine wp_seq_k (fun K31 hK31 => ?_)
    refine wp_region_lit ?_
    refine l_q rfl rfl (q_assignI rfl) ?_
    refine l_nil ?_
    refine hK31 _ _ ?_
    refine wp_block ?_
    have hT := tos_ok hE
    have hS32 := hS28.fr3; clear hS28
    have hS33 := hS32.fr3; clear hS32
    have hS34 := hS33.fr3; clear hS33
    refine c_loop (τ := Nat × Nat) [(2, 2), (6, 11), (53, 102)] (fun x => (fun (m : Nat) (c : Nat) => [(6, .int .i64 (c : Int)), (7, .int .i64 (m : Int))]) x.1 x.2) (fun x w' => (fun (m : Nat) (c : Nat) => St w (fun _ => False) [.blk k (.cells #[.map (some mb), .int .i64 (s : Int), .int .i64 ((0 : Nat) : Int), .int .i64 ((0 : Nat) : Int)] 60), .mp (.int .i64) mb (List.map nc L), .fz g, .ow 3 1 ad27 ((List.map Prod.fst L).length) cp27 (iv (List.map Prod.fst L))] w' ∧ m ≤ 16 ∧ c = cntT (absN L) m ∧ c ≤ 100 * m) x.1 x.2) (fun x => (fun (m : Nat) (c : Nat) => 16 - m) x.1 x.2) (⟨0, 0⟩) ?_ (by repeat' (first | exact trivial | refine ⟨by first | rfl | exact int_succ _ | assumption, ?_⟩)) (fun x35 j35 w35 hJ35 K35 hK35 => ?_)
    ·
     exact ⟨hS34, (by omega), (cntT_zero hT).symm, (by omega)⟩
    ·
     obtain ⟨m, c⟩ := x35
     obtain ⟨hS35, hm, hc, hcb⟩ := hJ35
     try dsimp only at hS35 hm hc hcb ⊢
     refine wp_seq_k (fun K36 hK36 => ?_)
     refine wp_seq_k (fun K37 hK37 => ?_)
     refine wp_region_lit ?_
     refine l_q rfl rfl (q_moveI rfl) ?_
     refine l_q rfl rfl (q_lss rfl rfl) ?_
     refine l_nil ?_
     refine hK37 _ _ ?_
     refine c_cond rfl (fun hc38 => ?_) (fun hc38 => ?_)
     ·
      have hc38b := hc38
      try simp only [decide_eq_true_eq, decide_eq_false_iff_not, Bool.not_eq_true', Bool.not_eq_false', Bool.and_eq_true, Bool.or_eq_true, Int.not_lt, Int.not_le, ne_eq, Decidable.not_not] at hc38
      refine wp_skip ?_
      refine hK36 _ _ ?_
      refine wp_seq_k (fun K39 hK39 => ?_)
      refine wp_block ?_
      refine wp_seq_k (fun K40 hK40 => ?_)
      refine wp_region_lit ?_
      refine l_q rfl rfl (q_moveP rfl) ?_
      refine l_q rfl rfl (q_moveI rfl) ?_
      refine l_e rfl (fun K hK => ?_)
      have hnl41 := numsW_len (absN L) (m : Int); rw [absN_len] at hnl41
      refine e_call (by kernel_rfl) (to_ok2 k mb s 0 0 L hn (by omega) (by omega) (m : Int) (by omega) _ (hS35.blk (i := 0) rfl) (hS35.map (i := 1) rfl) (hE.mono (hS35.fz (i := 2) rfl))) rfl (after_N hS35 (fun v41 G41 w41 hv41 hS41 => ?_))
      clear hS35
      obtain ⟨ad41, cp41, rfl, rfl⟩ := hv41
      have hS42 : St _ _ [.ow 3 1 ad41 ((numsW (absN L) (m : Int)).length) cp41 (iv (numsW (absN L) (m : Int))), _, _, .fz g, _] _ := hS41; clear hS41
      refine hK _ _ ?_; clear hK K
      refine l_q rfl rfl (q_assignS rfl) ?_
      refine l_nil ?_
      refine hK40 _ _ ?_
      refine wp_seq_k (fun K43 hK43 => ?_)
      refine wp_region_lit ?_
      refine l_q rfl rfl (q_moveI rfl) ?_
      refine l_q rfl rfl (q_moveS rfl) ?_
      refine l_q rfl rfl (q_lenSl (e := 3) rfl (by kernel_rfl)) ?_
      refine l_q rfl rfl (q_addx rfl rfl (by first | decide | omega) (by first | decide | omega)) ?_
      refine l_q rfl rfl (q_assignI rfl) ?_
      refine l_nil ?_
      refine hK43 _ _ ?_
      refine wp_seq_k (fun K44 hK44 => ?_)
      refine wp_region_lit ?_
      refine l_q rfl rfl (q_assignI rfl) ?_
      refine l_nil ?_
      refine hK44 _ _ ?_
      refine wp_block ?_
      have hS45 := hS42.fr4; clear hS42
      have hS46 := hS45.fr4; clear hS45
      have hS47 := hS46.fr4; clear hS46
      have hS48 := hS47.fr4; clear hS47
      refine c_loop (τ := Nat) [(2, 2), (9, 11), (64, 102)] (fun x => (fun (j : Nat) => [(9, .int .i64 (j : Int))]) x) (fun x w' => (fun (j : Nat) => St w (fun _ => False) [.blk k (.cells #[.map (some mb), .int .i64 (s : Int), .int .i64 ((0 : Nat) : Int), .int .i64 ((0 : Nat) : Int)] 60), .mp (.int .i64) mb (List.map nc L), .fz g, .ow 3 1 ad27 ((List.map Prod.fst L).length) cp27 (iv (List.map Prod.fst L)), .ow 3 1 ad41 ((numsW (absN L) (m : Int)).length) cp41 (iv (numsW (absN L) (m : Int)))] w' ∧ j ≤ (numsW (absN L) (m : Int)).length) x) (fun x => (fun (j : Nat) => (numsW (absN L) (m : Int)).length - j) x) (0) ?_ (by repeat' (first | exact trivial | refine ⟨by first | rfl | exact int_succ _ | assumption, ?_⟩)) (fun j j49 w49 hJ49 K49 hK49 => ?_)
      ·
       exact ⟨hS48, Nat.zero_le _⟩
      ·
       obtain ⟨hS49, hj⟩ := hJ49
       try dsimp only at hS49 hj ⊢
       refine wp_seq_k (fun K50 hK50 => ?_)
       refine wp_seq_k (fun K51 hK51 => ?_)
       refine wp_region_lit ?_
       refine l_q rfl rfl (q_moveI rfl) ?_
       refine l_q rfl rfl (q_moveS rfl) ?_
       refine l_q rfl rfl (q_lenSl (e := 3) rfl (by kernel_rfl)) ?_
       refine l_q rfl rfl (q_lss rfl rfl) ?_
       refine l_nil ?_
       refine hK51 _ _ ?_
       refine c_cond rfl (fun hc52 => ?_) (fun hc52 => ?_)
       ·
        have hc52b := hc52
        try simp only [decide_eq_true_eq, decide_eq_false_iff_not, Bool.not_eq_true', Bool.not_eq_false', Bool.and_eq_true, Bool.or_eq_true, Int.not_lt, Int.not_le, ne_eq, Decidable.not_not] at hc52
        refine wp_skip ?_
        refine hK50 _ _ ?_
        refine wp_seq_k (fun K53 hK53 => ?_)
        refine wp_block ?_
        refine wp_seq_k (fun K54 hK54 => ?_)
        refine wp_region_lit ?_
        refine l_q rfl rfl (q_moveP rfl) ?_
        refine l_q rfl rfl (q_moveS rfl) ?_
        refine l_q rfl rfl (q_moveI rfl) ?_
        refine l_q rfl rfl (q_ixG (e := 3) (m := 1) (j := j) rfl rfl (by kernel_rfl) (by kernel_rfl) (by first | rfl | omega) (by omega) (hS49.owG (i := 4) rfl) (by rw [iv_len]; first | omega | (simp only [List.length_append, List.length_map, List.length_cons, List.length_nil, List.length_take, List.length_drop, List.length_set] <;> omega))) ?_
        obtain ⟨x55, hx55⟩ : ∃ x, ((numsW (absN L) (m : Int)))[j]? = some x := ⟨_, List.getElem?_eq_getElem (by first | omega | (simp only [List.length_append, List.length_map, List.length_cons, List.length_nil, List.length_take, List.length_drop, List.length_set] <;> omega) | (simp <;> omega))⟩
        refine l_q rfl rfl (q_load1 rfl (by kernel_rfl) (SlG.cell (hS49.owG (i := 4) rfl) (Gle.refl _) (at1 (iv_at hx55)))) ?_
        refine l_e rfl (fun K hK => ?_)
        obtain ⟨ly, hmy, hty⟩ := numsW_mem (by omega) (List.mem_of_getElem? hx55)
        refine e_call (by kernel_rfl) (look_any k mb s 0 0 L hn x55 _ (hS49.blk (i := 0) rfl) (hS49.map (i := 1) rfl) (hE.mono (hS49.fz (i := 2) rfl))) rfl (after_N hS49 (fun v56 G56 w56 hv56 hS56 => ?_))
        clear hS49
        obtain ⟨l56, b56, an56, cn56, rfl, rfl, hs56⟩ := hv56
        have hS57 : St _ _ [.ow 3 1 an56 l56.nd.length cn56 (iv l56.nd), _, _, .fz g, _, _] _ := hS56; clear hS56
        obtain ⟨hv56, hb56⟩ := tk_val hs56 (hn.tkv hmy); have ht56 : l56.t = (m : Int) := by rw [hv56, hty]
        refine hK _ _ ?_; clear hK K
        refine l_q rfl rfl (q_move rfl) ?_
        refine l_q rfl rfl (q_extract rfl rfl) ?_
        refine l_q rfl rfl (q_extract rfl rfl) ?_
        refine l_e rfl (fun K hK => ?_)
        refine e_alloc (zv := .agg #[.int .i64 0, .int .i64 0, .int .i64 0, .int .i64 0, .slice none 0 0]) hS57 (by kernel_rfl) (fun b58 w58 (hS58 : St _ _ [.blk b58 (.cells #[.int .i64 (0 : Int), .int .i64 (0 : Int), .int .i64 (0 : Int), .int .i64 (0 : Int), .slice none 0 0] 25), _, _, _, .fz g, _, _] _) => ?_)
        clear hS57
        refine hK _ _ ?_; clear hK K
        refine l_e rfl (fun K hK => ?_)
        refine e_storeA hS58 rfl rfl (by kernel_rfl) (by repeat' (first | exact trivial | refine ⟨by first | rfl | assumption | exact one_if (by assumption), ?_⟩)) (i := 0) rfl rfl (fun w59 (hS59 : St _ _ [.blk b58 (.cells #[.int .i64 l56.k, .int .i64 l56.f, .int .i64 l56.t, .int .i64 l56.x, .slice an56 l56.nd.length cn56] 25), _, _, _, .fz g, _, _] _) => ?_)
        clear hS58
        refine hK _ _ ?_; clear hK K
        refine l_q rfl rfl (q_assignI rfl) ?_
        refine l_nil ?_
        refine hK54 _ _ ?_
        refine wp_seq_k (fun K60 hK60 => ?_)
        refine r_any (by kernel_rfl) hS59 (fun w61 hS61 => ?_)
        clear hS59
        refine o_pure (i := 0) (fun _ _ => trivial) rfl rfl (by kernel_rfl) (goes0 rfl) (QOk.then (QOk.inBlock (QOk.then (QOk.then (QOk.inBlock (QOk.inBlock (QOk.then (QOk.then (QOk.inBlock (QOk.then QOk.body)))))))))) (fun w => q_moveI rfl) ?_
        refine o_pure (i := 1) (fun _ _ => trivial) rfl rfl (by kernel_rfl) (goes0 rfl) (QOk.then (QOk.inBlock (QOk.then (QOk.then (QOk.inBlock (QOk.inBlock (QOk.then (QOk.then (QOk.inBlock (QOk.then QOk.body)))))))))) (fun w => q_neq rfl rfl) ?_
        refine o_pure (i := 2) (fun _ _ => trivial) rfl rfl (by kernel_rfl) (goes0 rfl) (QOk.then (QOk.inBlock (QOk.then (QOk.then (QOk.inBlock (QOk.inBlock (QOk.then (QOk.then (QOk.inBlock (QOk.then QOk.body)))))))))) (fun w => q_moveB rfl) ?_
        refine g_splitO (t := 81) rfl (fun hg62 => ?_) (fun hg62 => ?_)
        ·
         have hg62b := hg62
         try simp only [decide_eq_true_eq, decide_eq_false_iff_not, Bool.not_eq_true', Bool.not_eq_false', Bool.and_eq_true, Bool.or_eq_true, Int.not_lt, Int.not_le, ne_eq, Decidable.not_not] at hg62
         exfalso; first | omega | exact hg62 trivial
        ·
         have hg62b := hg62
         try simp only [decide_eq_true_eq, decide_eq_false_iff_not, Bool.not_eq_true', Bool.not_eq_false', Bool.and_eq_true, Bool.or_eq_true, Int.not_lt, Int.not_le, ne_eq, Decidable.not_not] at hg62
         refine o_pure (i := 3) (fun _ _ => trivial) rfl rfl (by kernel_rfl) (goes1 rfl rfl hg62b) (QOk.then (QOk.inBlock (QOk.then (QOk.then (QOk.inBlock (QOk.inBlock (QOk.then (QOk.then (QOk.inBlock (QOk.then QOk.body)))))))))) (fun w => q_fieldAddr (ft := 3) (o := 2) rfl (by kernel_rfl)) ?_
         refine o_held (i := 4) [6, 7, 8, 9, 10, 11, 12, 13, 14, 15, 16, 17, 18, 19, 20, 21, 22, 23] (fun _ _ => trivial) rfl rfl (by kernel_rfl) (goes1 rfl rfl hg62b) (QOk.then (QOk.inBlock (QOk.then (QOk.then (QOk.inBlock (QOk.inBlock (QOk.then (QOk.then (QOk.inBlock (QOk.then QOk.body)))))))))) (q_load1 rfl (by kernel_rfl) (hS61.cell (i := 0) rfl rfl)) ?_
         refine o_pure (i := 5) (fun j w => ⟨(fun _ _ => trivial) j w, fun _ h => h⟩) rfl rfl (by kernel_rfl) (goes1 rfl rfl hg62b) (QOk.then (QOk.inBlock (QOk.then (QOk.then (QOk.inBlock (QOk.inBlock (QOk.then (QOk.then (QOk.inBlock (QOk.then QOk.body)))))))))) (fun w => q_moveI rfl) ?_
         refine o_pure (i := 6) (fun j w => ⟨(fun _ _ => trivial) j w, fun _ h => h⟩) rfl rfl (by kernel_rfl) (goes1 rfl rfl hg62b) (QOk.then (QOk.inBlock (QOk.then (QOk.then (QOk.inBlock (QOk.inBlock (QOk.then (QOk.then (QOk.inBlock (QOk.then QOk.body)))))))))) (fun w => q_neq rfl rfl) ?_
         refine o_pure (i := 7) (fun j w => ⟨(fun _ _ => trivial) j w, fun _ h => h⟩) rfl rfl (by kernel_rfl) (goes0 rfl) (QOk.then (QOk.inBlock (QOk.then (QOk.then (QOk.inBlock (QOk.inBlock (QOk.then (QOk.then (QOk.inBlock (QOk.then QOk.body)))))))))) (fun w => q_pickF rfl hg62b rfl) ?_
         refine o_pure (i := 8) (fun j w => ⟨(fun _ _ => trivial) j w, fun _ h => h⟩) rfl rfl (by kernel_rfl) (goes0 rfl) (QOk.then (QOk.inBlock (QOk.then (QOk.then (QOk.inBlock (QOk.inBlock (QOk.then (QOk.then (QOk.inBlock (QOk.then QOk.body)))))))))) (fun w => q_moveB rfl) ?_
         refine g_splitO (t := 87) rfl (fun hg63 => ?_) (fun hg63 => ?_)
         ·
          have hg63b := hg63
          try simp only [decide_eq_true_eq, decide_eq_false_iff_not, Bool.not_eq_true', Bool.not_eq_false', Bool.and_eq_true, Bool.or_eq_true, Int.not_lt, Int.not_le, ne_eq, Decidable.not_not] at hg63
          exfalso; first | omega | exact hg63 trivial
         ·
          have hg63b := hg63
          try simp only [decide_eq_true_eq, decide_eq_false_iff_not, Bool.not_eq_true', Bool.not_eq_false', Bool.and_eq_true, Bool.or_eq_true, Int.not_lt, Int.not_le, ne_eq, Decidable.not_not] at hg63
          refine o_pure (i := 9) (fun j w => ⟨(fun _ _ => trivial) j w, fun _ h => h⟩) rfl rfl (by kernel_rfl) (goes1 rfl rfl hg63b) (QOk.then (QOk.inBlock (QOk.then (QOk.then (QOk.inBlock (QOk.inBlock (QOk.then (QOk.then (QOk.inBlock (QOk.then QOk.body)))))))))) (fun w => q_moveI rfl) ?_
          refine o_pure (i := 10) (fun j w => ⟨(fun _ _ => trivial) j w, fun _ h => h⟩) rfl rfl (by kernel_rfl) (goes1 rfl rfl hg63b) (QOk.then (QOk.inBlock (QOk.then (QOk.then (QOk.inBlock (QOk.inBlock (QOk.then (QOk.then (QOk.inBlock (QOk.then QOk.body)))))))))) (fun w => q_gtr rfl rfl) ?_
          refine o_pure (i := 11) (fun j w => ⟨(fun _ _ => trivial) j w, fun _ h => h⟩) rfl rfl (by kernel_rfl) (goes1 rfl rfl hg63b) (QOk.then (QOk.inBlock (QOk.then (QOk.then (QOk.inBlock (QOk.inBlock (QOk.then (QOk.then (QOk.inBlock (QOk.then QOk.body)))))))))) (fun w => q_moveB rfl) ?_
          refine g_splitO (t := 90) rfl (fun hg64 => ?_) (fun hg64 => ?_)
          ·
           have hg64b := hg64
           try simp only [decide_eq_true_eq, decide_eq_false_iff_not, Bool.not_eq_true', Bool.not_eq_false', Bool.and_eq_true, Bool.or_eq_true, Int.not_lt, Int.not_le, ne_eq, Decidable.not_not] at hg64
           refine o_pure (i := 12) (fun j w => ⟨(fun _ _ => trivial) j w, fun _ h => h⟩) rfl rfl (by kernel_rfl) (goes1 rfl rfl hg64b) (QOk.then (QOk.inBlock (QOk.then (QOk.then (QOk.inBlock (QOk.inBlock (QOk.then (QOk.then (QOk.inBlock (QOk.then QOk.body)))))))))) (fun w => q_moveS rfl) ?_
           refine o_pure (i := 13) (fun j w => ⟨(fun _ _ => trivial) j w, fun _ h => h⟩) rfl rfl (by kernel_rfl) (goes1 rfl rfl hg64b) (QOk.then (QOk.inBlock (QOk.then (QOk.then (QOk.inBlock (QOk.inBlock (QOk.then (QOk.then (QOk.inBlock (QOk.then QOk.body)))))))))) (fun w => q_moveI rfl) ?_
           refine o_pure (i := 14) (fun j w => ⟨(fun _ _ => trivial) j w, fun _ h => h⟩) rfl rfl (by kernel_rfl) (goes1 rfl rfl hg64b) (QOk.then (QOk.inBlock (QOk.then (QOk.then (QOk.inBlock (QOk.inBlock (QOk.then (QOk.then (QOk.inBlock (QOk.then QOk.body)))))))))) (fun w => q_subx rfl rfl (by first | decide | omega) (by first | decide | omega)) ?_
           refine o_pure (i := 15) (fun j w => ⟨(fun _ _ => trivial) j w, fun _ h => h⟩) rfl rfl (by kernel_rfl) (goes1 rfl rfl hg64b) (QOk.then (QOk.inBlock (QOk.then (QOk.then (QOk.inBlock (QOk.inBlock (QOk.then (QOk.then (QOk.inBlock (QOk.then QOk.body)))))))))) (fun w => q_ixG (e := 3) (m := 1) (j := (j - 1)) rfl rfl (by kernel_rfl) (by kernel_rfl) (by first | rfl | omega) (by omega) (hS61.owG (i := 6) rfl) (by rw [iv_len]; first | omega | (simp only [List.length_append, List.length_map, List.length_cons, List.length_nil, List.length_take, List.length_drop, List.length_set] <;> omega))) ?_
           obtain ⟨x65, hx65⟩ : ∃ x, ((numsW (absN L) (m : Int)))[(j - 1)]? = some x := ⟨_, List.getElem?_eq_getElem (by first | omega | (simp only [List.length_append, List.length_map, List.length_cons, List.length_nil, List.length_take, List.length_drop, List.length_set] <;> omega) | (simp <;> omega))⟩
           refine o_held (i := 16) [21, 22, 23] (fun j w => ⟨(fun _ _ => trivial) j w, fun _ h => h⟩) rfl rfl (by kernel_rfl) (goes1 rfl rfl hg64b) (QOk.then (QOk.inBlock (QOk.then (QOk.then (QOk.inBlock (QOk.inBlock (QOk.then (QOk.then (QOk.inBlock (QOk.then QOk.body)))))))))) (q_load1 rfl (by kernel_rfl) (SlG.cell (hS61.owG (i := 6) rfl) (Gle.refl _) (at1 (iv_at hx65)))) ?_
           refine o_pure (i := 17) (fun j w => ⟨(fun j w => ⟨(fun _ _ => trivial) j w, fun _ h => h⟩) j w, fun _ h => h⟩) rfl rfl (by kernel_rfl) (goes1 rfl rfl hg64b) (QOk.then (QOk.inBlock (QOk.then (QOk.then (QOk.inBlock (QOk.inBlock (QOk.then (QOk.then (QOk.inBlock (QOk.then QOk.body)))))))))) (fun w => q_moveS rfl) ?_
           refine o_pure (i := 18) (fun j w => ⟨(fun j w => ⟨(fun _ _ => trivial) j w, fun _ h => h⟩) j w, fun _ h => h⟩) rfl rfl (by kernel_rfl) (goes1 rfl rfl hg64b) (QOk.then (QOk.inBlock (QOk.then (QOk.then (QOk.inBlock (QOk.inBlock (QOk.then (QOk.then (QOk.inBlock (QOk.then QOk.body)))))))))) (fun w => q_moveI rfl) ?_
           refine o_pure (i := 19) (fun j w => ⟨(fun j w => ⟨(fun _ _ => trivial) j w, fun _ h => h⟩) j w, fun _ h => h⟩) rfl rfl (by kernel_rfl) (goes1 rfl rfl hg64b) (QOk.then (QOk.inBlock (QOk.then (QOk.then (QOk.inBlock (QOk.inBlock (QOk.then (QOk.then (QOk.inBlock (QOk.then QOk.body)))))))))) (fun w => q_ixG (e := 3) (m := 1) (j := j) rfl rfl (by kernel_rfl) (by kernel_rfl) (by first | rfl | omega) (by omega) (hS61.owG (i := 6) rfl) (by rw [iv_len]; first | omega | (simp only [List.length_append, List.length_map, List.length_cons, List.length_nil, List.length_take, List.length_drop, List.length_set] <;> omega))) ?_
           refine o_held (i := 20) [21, 22, 23] (fun j w => ⟨(fun j w => ⟨(fun _ _ => trivial) j w, fun _ h => h⟩) j w, fun _ h => h⟩) rfl rfl (by kernel_rfl) (goes1 rfl rfl hg64b) (QOk.then (QOk.inBlock (QOk.then (QOk.then (QOk.inBlock (QOk.inBlock (QOk.then (QOk.then (QOk.inBlock (QOk.then QOk.body)))))))))) (q_load1 rfl (by kernel_rfl) (SlG.cell (hS61.owG (i := 6) rfl) (Gle.refl _) (at1 (iv_at hx55)))) ?_
           refine o_pure (i := 21) (fun j w => ⟨(fun j w => ⟨(fun j w => ⟨(fun _ _ => trivial) j w, fun _ h => h⟩) j w, fun _ h => h⟩) j w, fun _ h => h⟩) rfl rfl (by kernel_rfl) (goes1 rfl rfl hg64b) (QOk.then (QOk.inBlock (QOk.then (QOk.then (QOk.inBlock (QOk.inBlock (QOk.then (QOk.then (QOk.inBlock (QOk.then QOk.body)))))))))) (fun w => q_geq rfl rfl) ?_
           refine o_pure (i := 22) (fun j w => ⟨(fun j w => ⟨(fun j w => ⟨(fun _ _ => trivial) j w, fun _ h => h⟩) j w, fun _ h => h⟩) j w, fun _ h => h⟩) rfl rfl (by kernel_rfl) (goes1 rfl rfl hg63b) (QOk.then (QOk.inBlock (QOk.then (QOk.then (QOk.inBlock (QOk.inBlock (QOk.then (QOk.then (QOk.inBlock (QOk.then QOk.body)))))))))) (fun w => q_pickT rfl hg64b rfl) ?_
           refine o_pure (i := 23) (fun j w => ⟨(fun j w => ⟨(fun j w => ⟨(fun _ _ => trivial) j w, fun _ h => h⟩) j w, fun _ h => h⟩) j w, fun _ h => h⟩) rfl rfl (by kernel_rfl) (goes0 rfl) (QOk.then (QOk.inBlock (QOk.then (QOk.then (QOk.inBlock (QOk.inBlock (QOk.then (QOk.then (QOk.inBlock (QOk.then QOk.body)))))))))) (fun w => q_pickF rfl hg63b rfl) ?_
           refine o_done (by kernel_rfl) ?_
           refine hK60 _ _ ?_
           refine c_cond rfl (fun hc66 => ?_) (fun hc66 => ?_)
           ·
            have hc66b := hc66
            try simp only [decide_eq_true_eq, decide_eq_false_iff_not, Bool.not_eq_true', Bool.not_eq_false', Bool.and_eq_true, Bool.or_eq_true, Int.not_lt, Int.not_le, ne_eq, Decidable.not_not] at hc66
            have hrs := rise_at (numsW_rise hn _) hx65 hx55 (by omega); exfalso; omega
           ·
            have hc66b := hc66
            try simp only [decide_eq_true_eq, decide_eq_false_iff_not, Bool.not_eq_true', Bool.not_eq_false', Bool.and_eq_true, Bool.or_eq_true, Int.not_lt, Int.not_le, ne_eq, Decidable.not_not] at hc66
            refine wp_skip ?_
            refine hK53 _ _ ?_
            refine wp_region_lit ?_
            refine l_q rfl rfl (q_moveI rfl) ?_
            refine l_q rfl rfl (q_addx rfl rfl (by first | decide | omega) (by first | decide | omega)) ?_
            refine l_q rfl rfl (q_assignI rfl) ?_
            refine l_nil ?_
            have hS67 := hS61.fr6; clear hS61
            have hS68 := hS67.fr6; clear hS67
            have hS69 := hS68.fr6; clear hS68
            have hS70 := hS69.fr6; clear hS69
            have hS71 := hS70.fr6; clear hS70
            have hS72 : St _ _ [_, _, .fz g, _, _] _ := hS71.only 5; clear hS71
            refine hK49 _ _ (came ((j + 1)) (by repeat' (first | exact Agree.refl _ _ | refine Agree.up ?_ rfl | refine Agree.hav2 ?_ rfl | refine Agree.ups2 ?_ rfl)) (by repeat' (first | exact trivial | refine ⟨by first | rfl | exact int_succ _ | assumption, ?_⟩)) ?_)
            exact ⟨⟨hS72, (by show j + 1 ≤ (numsW (absN L) (m : Int)).length; omega)⟩, by (show (numsW (absN L) (m : Int)).length - (j + 1) < (numsW (absN L) (m : Int)).length - j); omega⟩
          ·
           have hg64b := hg64
           try simp only [decide_eq_true_eq, decide_eq_false_iff_not, Bool.not_eq_true', Bool.not_eq_false', Bool.and_eq_true, Bool.or_eq_true, Int.not_lt, Int.not_le, ne_eq, Decidable.not_not] at hg64
           refine o_off (i := 12) (fun j w => ⟨(fun _ _ => trivial) j w, fun _ h => h⟩) rfl rfl (by kernel_rfl) rfl rfl hg64b (QOk.then (QOk.inBlock (QOk.then (QOk.then (QOk.inBlock (QOk.inBlock (QOk.then (QOk.then (QOk.inBlock (QOk.then QOk.body)))))))))) ?_
           refine o_off (i := 13) (fun j w => ⟨(fun _ _ => trivial) j w, fun _ h => h⟩) rfl rfl (by kernel_rfl) rfl rfl hg64b (QOk.then (QOk.inBlock (QOk.then (QOk.then (QOk.inBlock (QOk.inBlock (QOk.then (QOk.then (QOk.inBlock (QOk.then QOk.body)))))))))) ?_
           refine o_off (i := 14) (fun j w => ⟨(fun _ _ => trivial) j w, fun _ h => h⟩) rfl rfl (by kernel_rfl) rfl rfl hg64b (QOk.then (QOk.inBlock (QOk.then (QOk.then (QOk.inBlock (QOk.inBlock (QOk.then (QOk.then (QOk.inBlock (QOk.then QOk.body)))))))))) ?_
           refine o_off (i := 15) (fun j w => ⟨(fun _ _ => trivial) j w, fun _ h => h⟩) rfl rfl (by kernel_rfl) rfl rfl hg64b (QOk.then (QOk.inBlock (QOk.then (QOk.then (QOk.inBlock (QOk.inBlock (QOk.then (QOk.then (QOk.inBlock (QOk.then QOk.body)))))))))) ?_
           refine o_off (i := 16) (fun j w => ⟨(fun _ _ => trivial) j w, fun _ h => h⟩) rfl rfl (by kernel_rfl) rfl rfl hg64b (QOk.then (QOk.inBlock (QOk.then (QOk.then (QOk.inBlock (QOk.inBlock (QOk.then (QOk.then (QOk.inBlock (QOk.then QOk.body)))))))))) ?_
           refine o_off (i := 17) (fun j w => ⟨(fun _ _ => trivial) j w, fun _ h => h⟩) rfl rfl (by kernel_rfl) rfl rfl hg64b (QOk.then (QOk.inBlock (QOk.then (QOk.then (QOk.inBlock (QOk.inBlock (QOk.then (QOk.then (QOk.inBlock (QOk.then QOk.body)))))))))) ?_
           refine o_off (i := 18) (fun j w => ⟨(fun _ _ => trivial) j w, fun _ h => h⟩) rfl rfl (by kernel_rfl) rfl rfl hg64b (QOk.then (QOk.inBlock (QOk.then (QOk.then (QOk.inBlock (QOk.inBlock (QOk.then (QOk.then (QOk.inBlock (QOk.then QOk.body)))))))))) ?_
           refine o_off (i := 19) (fun j w => ⟨(fun _ _ => trivial) j w, fun _ h => h⟩) rfl rfl (by kernel_rfl) rfl rfl hg64b (QOk.then (QOk.inBlock (QOk.then (QOk.then (QOk.inBlock (QOk.inBlock (QOk.then (QOk.then (QOk.inBlock (QOk.then QOk.body)))))))))) ?_
           refine o_off (i := 20) (fun j w => ⟨(fun _ _ => trivial) j w, fun _ h => h⟩) rfl rfl (by kernel_rfl) rfl rfl hg64b (QOk.then (QOk.inBlock (QOk.then (QOk.then (QOk.inBlock (QOk.inBlock (QOk.then (QOk.then (QOk.inBlock (QOk.then QOk.body)))))))))) ?_
           refine o_off (i := 21) (fun j w => ⟨(fun _ _ => trivial) j w, fun _ h => h⟩) rfl rfl (by kernel_rfl) rfl rfl hg64b (QOk.then (QOk.inBlock (QOk.then (QOk.then (QOk.inBlock (QOk.inBlock (QOk.then (QOk.then (QOk.inBlock (QOk.then QOk.body)))))))))) ?_
           refine o_pure (i := 22) (fun j w => ⟨(fun _ _ => trivial) j w, fun _ h => h⟩) rfl rfl (by kernel_rfl) (goes1 rfl rfl hg63b) (QOk.then (QOk.inBlock (QOk.then (QOk.then (QOk.inBlock (QOk.inBlock (QOk.then (QOk.then (QOk.inBlock (QOk.then QOk.body)))))))))) (fun w => q_pickF rfl hg64b rfl) ?_
           refine o_pure (i := 23) (fun j w => ⟨(fun _ _ => trivial) j w, fun _ h => h⟩) rfl rfl (by kernel_rfl) (goes0 rfl) (QOk.then (QOk.inBlock (QOk.then (QOk.then (QOk.inBlock (QOk.inBlock (QOk.then (QOk.then (QOk.inBlock (QOk.then QOk.body)))))))))) (fun w => q_pickF rfl hg63b rfl) ?_
           refine o_done (by kernel_rfl) ?_
           refine hK60 _ _ ?_
           refine c_condF rfl rfl ?_
           refine wp_skip ?_
           refine hK53 _ _ ?_
           refine wp_region_lit ?_
           refine l_q rfl rfl (q_moveI rfl) ?_
           refine l_q rfl rfl (q_addx rfl rfl (by first | decide | omega) (by first | decide | omega)) ?_
           refine l_q rfl rfl (q_assignI rfl) ?_
           refine l_nil ?_
           have hS74 := hS61.fr6; clear hS61
           have hS75 := hS74.fr6; clear hS74
           have hS76 := hS75.fr6; clear hS75
           have hS77 := hS76.fr6; clear hS76
           have hS78 := hS77.fr6; clear hS77
           have hS79 : St _ _ [_, _, .fz g, _, _] _ := hS78.only 5; clear hS78
           refine hK49 _ _ (came ((j + 1)) (by repeat' (first | exact Agree.refl _ _ | refine Agree.up ?_ rfl | refine Agree.hav2 ?_ rfl | refine Agree.ups2 ?_ rfl)) (by repeat' (first | exact trivial | refine ⟨by first | rfl | exact int_succ _ | assumption, ?_⟩)) ?_)
           exact ⟨⟨hS79, (by show j + 1 ≤ (numsW (absN L) (m : Int)).length; omega)⟩, by (show (numsW (absN L) (m : Int)).length - (j + 1) < (numsW (absN L) (m : Int)).length - j); omega⟩
       ·
        have hc52b := hc52
        try simp only [decide_eq_true_eq, decide_eq_false_iff_not, Bool.not_eq_true', Bool.not_eq_false', Bool.and_eq_true, Bool.or_eq_true, Int.not_lt, Int.not_le, ne_eq, Decidable.not_not] at hc52
        refine wp_exit ?_
        refine hK39 _ _ ?_
        refine wp_region_lit ?_
        refine l_q rfl rfl (q_moveI rfl) ?_
        refine l_q rfl rfl (q_addx rfl rfl (by first | decide | omega) (by first | decide | omega)) ?_
        refine l_q rfl rfl (q_assignI rfl) ?_
        refine l_nil ?_
        have hS80 : St _ _ [_, _, .fz g, _] _ := hS49.only 4; clear hS49
        refine hK35 _ _ (came (⟨(m + 1), (c + (numsW (absN L) (m : Int)).length)⟩) (by repeat' (first | exact Agree.refl _ _ | refine Agree.up ?_ rfl | refine Agree.hav2 ?_ rfl | refine Agree.ups2 ?_ rfl)) (by repeat' (first | exact trivial | refine ⟨by first | rfl | exact int_succ _ | assumption, ?_⟩)) ?_)
        exact ⟨⟨hS80, (by show m + 1 ≤ 16; omega), (by rw [cntT_succ, hc]), (by show c + (numsW (absN L) (m : Int)).length ≤ 100 * (m + 1); omega)⟩, by (show 16 - (m + 1) < 16 - m); omega⟩
     ·
      have hc38b := hc38
      try simp only [decide_eq_true_eq, decide_eq_false_iff_not, Bool.not_eq_true', Bool.not_eq_false', Bool.and_eq_true, Bool.or_eq_true, Int.not_lt, Int.not_le, ne_eq, Decidable.not_not] at hc38
      refine wp_exit ?_
      refine hK30 _ _ ?_
      refine wp_seq_k (fun K81 hK81 => ?_)
      refine wp_seq_k (fun K82 hK82 => ?_)
      have hm16 : m = 16 := by omega
      rw [hm16, cntT_all hT, absN_len] at hc
      refine wp_region_lit ?_
      refine l_q rfl rfl (q_moveS rfl) ?_
      refine l_q rfl rfl (q_lenSl (e := 3) rfl (by kernel_rfl)) ?_
      refine l_q rfl rfl (q_subx rfl rfl (by first | decide | omega) (by first | decide | omega)) ?_
      refine l_q rfl rfl (q_assignI rfl) ?_
      refine l_nil ?_
      refine hK82 _ _ ?_
      refine wp_block ?_
      refine c_loop (τ := Nat × (List (Int × Ent)) × Nat) [(2, 2), (12, 14), (106, 127)] (fun x => (fun (kk : Nat) (L2 : List (Int × Ent)) (t : Nat) => [(12, .int .i64 ((kk : Int) - 1))]) x.1 x.2.1 x.2.2) (fun x w' => (fun (kk : Nat) (L2 : List (Int × Ent)) (t : Nat) => St w (fun _ => False) [.blk k (.cells #[.map (some mb), .int .i64 (s : Int), .int .i64 (t : Int), .int .i64 ((0 : Nat) : Int)] 60), .mp (.int .i64) mb (List.map nc L2), .fz g, .ow 3 1 ad27 ((List.map Prod.fst L).length) cp27 (iv (List.map Prod.fst L))] w' ∧ kk ≤ L.length ∧ absN L2 = (absN L).take kk ∧ EOk g L2 ∧ NumOk (absN L2) s ∧ t + kk = L.length) x.1 x.2.1 x.2.2) (fun x => (fun (kk : Nat) (L2 : List (Int × Ent)) (t : Nat) => kk) x.1 x.2.1 x.2.2) (⟨(List.map Prod.fst L).length, L, 0⟩) ?_ (by repeat' (first | exact trivial | refine ⟨by first | rfl | exact int_succ _ | assumption, ?_⟩)) (fun x83 j83 w83 hJ83 K83 hK83 => ?_)
      ·
       have hlmm : (List.map Prod.fst L).length = L.length := List.length_map _
       exact ⟨hS35, (by omega), (by rw [List.take_of_length_le (by rw [absN_len]; omega)]), hE, hn, (by show 0 + (List.map Prod.fst L).length = L.length; omega)⟩
      ·
       obtain ⟨kk, L2, t⟩ := x83
       obtain ⟨hS83, hk6, hA2, hE2, hn2, htk⟩ := hJ83
       try dsimp only at hS83 hk6 hA2 hE2 hn2 htk ⊢
       refine wp_seq_k (fun K84 hK84 => ?_)
       refine wp_seq_k (fun K85 hK85 => ?_)
       refine wp_region_lit ?_
       refine l_q rfl rfl (q_moveI rfl) ?_
       refine l_q rfl rfl (q_geq rfl rfl) ?_
       refine l_nil ?_
       refine hK85 _ _ ?_
       refine c_cond rfl (fun hc86 => ?_) (fun hc86 => ?_)
       ·
        have hc86b := hc86
        try simp only [decide_eq_true_eq, decide_eq_false_iff_not, Bool.not_eq_true', Bool.not_eq_false', Bool.and_eq_true, Bool.or_eq_true, Int.not_lt, Int.not_le, ne_eq, Decidable.not_not] at hc86
        obtain ⟨k1, rfl⟩ : ∃ q, kk = q + 1 := ⟨kk - 1, by omega⟩
        refine wp_skip ?_
        refine hK84 _ _ ?_
        refine wp_seq_k (fun K87 hK87 => ?_)
        refine wp_block ?_
        refine wp_seq_k (fun K88 hK88 => ?_)
        refine wp_region_lit ?_
        refine l_q rfl rfl (q_moveP rfl) ?_
        refine l_q rfl rfl (q_moveS rfl) ?_
        refine l_q rfl rfl (q_moveI rfl) ?_
        refine l_q rfl rfl (q_ixG (e := 3) (m := 1) (j := k1) rfl rfl (by kernel_rfl) (by kernel_rfl) (by first | rfl | omega) (by omega) (hS83.owG (i := 3) rfl) (by rw [iv_len]; first | omega | (simp only [List.length_append, List.length_map, List.length_cons, List.length_nil, List.length_take, List.length_drop, List.length_set] <;> omega))) ?_
        obtain ⟨x89, hx89⟩ : ∃ x, ((List.map Prod.fst L))[k1]? = some x := ⟨_, List.getElem?_eq_getElem (by first | omega | (simp only [List.length_append, List.length_map, List.length_cons, List.length_nil, List.length_take, List.length_drop, List.length_set] <;> omega) | (simp <;> omega))⟩
        refine l_q rfl rfl (q_load1 rfl (by kernel_rfl) (SlG.cell (hS83.owG (i := 3) rfl) (Gle.refl _) (at1 (iv_at hx89)))) ?_
        refine l_e rfl (fun K hK => ?_)
        obtain ⟨lz1, hz1⟩ := last_at hx89; have hA4 := hA2.trans (take_last hz1); have hmz : (x89, lz1) ∈ absN L2 := by rw [hA4]; exact List.mem_append_right _ (.head _)
        refine e_call (by kernel_rfl) (take_any k mb s t 0 L2 g hE2 hn2 (by omega) x89 _ (St.begin (Γ := [_, _, _]) hS83)) rfl (after_M (Γ1 := [_, _, _]) hS83 (fun v90 G90 w90 hv90 hS90 => ?_))
        clear hS83
        obtain ⟨l90, b90, an90, cn90, rfl, rfl, hs90⟩ := hv90
        have hS91 : St _ _ [.blk k (.cells #[.map (some mb), .int .i64 (s : Int), .int .i64 (((t + ls (absN L2) x89) : Nat) : Int), .int .i64 ((0 : Nat) : Int)] 60), .mp (.int .i64) mb (List.map nc (mdel L2 x89)), .fz g, .ow 3 1 an90 l90.nd.length cn90 (iv l90.nd), _] _ := hS90; clear hS90
        have hn90 : NumOk (absN (mdel L2 x89)) s := by rw [absN_del]; exact hn2.del _
        have hgl90 := ls_add (absN L2) x89; rw [← absN_del, absN_len, absN_len] at hgl90
        obtain ⟨hv90, hb90⟩ := tk_val hs90 (hn2.tkv hmz)
        have hl190 := hn2.ls hmz
        have hA3 : absN (mdel L2 x89) = (absN L).take k1 := by rw [absN_del, hA4]; exact mdel_last (by rw [← hA4]; exact hn2)
        have hl3 : (mdel L2 x89).length = k1 := by rw [← absN_len, hA3, List.length_take, absN_len]; omega
        refine hK _ _ ?_; clear hK K
        refine l_q rfl rfl (q_move rfl) ?_
        refine l_q rfl rfl (q_extract rfl rfl) ?_
        refine l_q rfl rfl (q_extract rfl rfl) ?_
        refine l_e rfl (fun K hK => ?_)
        refine e_alloc (zv := .agg #[.int .i64 0, .int .i64 0, .int .i64 0, .int .i64 0, .slice none 0 0]) hS91 (by kernel_rfl) (fun b92 w92 (hS92 : St _ _ [.blk b92 (.cells #[.int .i64 (0 : Int), .int .i64 (0 : Int), .int .i64 (0 : Int), .int .i64 (0 : Int), .slice none 0 0] 25), _, _, .fz g, _, _] _) => ?_)
        clear hS91
        refine hK _ _ ?_; clear hK K
        refine l_e rfl (fun K hK => ?_)
        refine e_storeA hS92 rfl rfl (by kernel_rfl) (by repeat' (first | exact trivial | refine ⟨by first | rfl | assumption | exact one_if (by assumption), ?_⟩)) (i := 0) rfl rfl (fun w93 (hS93 : St _ _ [.blk b92 (.cells #[.int .i64 l90.k, .int .i64 l90.f, .int .i64 l90.t, .int .i64 l90.x, .slice an90 l90.nd.length cn90] 25), _, _, .fz g, _, _] _) => ?_)
        clear hS92
        refine hK _ _ ?_; clear hK K
        refine l_q rfl rfl (q_assignI rfl) ?_
        refine l_nil ?_
        refine hK88 _ _ ?_
        refine wp_seq_k (fun K94 hK94 => ?_)
        refine wp_region_lit ?_
        refine l_q rfl rfl (q_moveI rfl) ?_
        refine l_q rfl rfl (q_neq rfl rfl) ?_
        refine l_q rfl rfl (q_moveB rfl) ?_
        refine g_splitL (t := 121) rfl (fun hg95 => ?_) (fun hg95 => ?_)
        ·
         have hg95b := hg95
         try simp only [decide_eq_true_eq, decide_eq_false_iff_not, Bool.not_eq_true', Bool.not_eq_false', Bool.and_eq_true, Bool.or_eq_true, Int.not_lt, Int.not_le, ne_eq, Decidable.not_not] at hg95
         exfalso; first | omega | exact hg95 trivial
        ·
         have hg95b := hg95
         try simp only [decide_eq_true_eq, decide_eq_false_iff_not, Bool.not_eq_true', Bool.not_eq_false', Bool.and_eq_true, Bool.or_eq_true, Int.not_lt, Int.not_le, ne_eq, Decidable.not_not] at hg95
         refine l_on rfl rfl hg95b ?_
         refine l_q rfl rfl (q_moveP rfl) ?_
         refine l_on rfl rfl hg95b ?_
         refine l_e rfl (fun K hK => ?_)
         have hlm96 : (List.map Prod.fst (mdel L2 x89)).length = (mdel L2 x89).length := List.length_map _
         refine e_call (by kernel_rfl) (nums_ok k mb s (t + ls (absN L2) x89) 0 (mdel L2 x89) hn90 (by omega) (by omega) _ (hS93.blk (i := 1) rfl) (hS93.map (i := 2) rfl) ((EOk.del hE2 x89).mono (hS93.fz (i := 3) rfl))) rfl (after_N hS93 (fun v96 G96 w96 hv96 hS96 => ?_))
         clear hS93
         obtain ⟨ad96, cp96, rfl, rfl⟩ := hv96
         have hS97 : St _ _ [.ow 3 1 ad96 ((List.map Prod.fst (mdel L2 x89)).length) cp96 (iv (List.map Prod.fst (mdel L2 x89))), _, _, _, .fz g, _, _] _ := hS96; clear hS96
         refine hK _ _ ?_; clear hK K
         refine l_on rfl rfl hg95b ?_
         refine l_q rfl rfl (q_lenSl (e := 3) rfl (by kernel_rfl)) ?_
         refine l_on rfl rfl hg95b ?_
         refine l_q rfl rfl (q_moveI rfl) ?_
         refine l_on rfl rfl hg95b ?_
         refine l_q rfl rfl (q_neq rfl rfl) ?_
         refine l_q rfl rfl (q_pickF rfl hg95b rfl) ?_
         refine l_nil ?_
         refine hK94 _ _ ?_
         refine c_cond rfl (fun hc98 => ?_) (fun hc98 => ?_)
         ·
          have hc98b := hc98
          try simp only [decide_eq_true_eq, decide_eq_false_iff_not, Bool.not_eq_true', Bool.not_eq_false', Bool.and_eq_true, Bool.or_eq_true, Int.not_lt, Int.not_le, ne_eq, Decidable.not_not] at hc98
          exfalso; first | omega | exact hc98 trivial
         ·
          have hc98b := hc98
          try simp only [decide_eq_true_eq, decide_eq_false_iff_not, Bool.not_eq_true', Bool.not_eq_false', Bool.and_eq_true, Bool.or_eq_true, Int.not_lt, Int.not_le, ne_eq, Decidable.not_not] at hc98
          refine wp_skip ?_
          refine hK87 _ _ ?_
          refine wp_region_lit ?_
          refine l_q rfl rfl (q_moveI rfl) ?_
          refine l_q rfl rfl (q_subx rfl rfl (by first | decide | omega) (by first | decide | omega)) ?_
          refine l_q rfl rfl (q_assignI rfl) ?_
          refine l_nil ?_
          have hS99 := hS97.fr6; clear hS97
          have hS100 := hS99.fr5; clear hS99
          have hS101 := hS100.fr5; clear hS100
          have hS102 := hS101.fr5; clear hS101
          have hS103 : St _ _ [_, _, .fz g, _] _ := hS102.only 4; clear hS102
          refine hK83 _ _ (came (⟨k1, (mdel L2 x89), (t + ls (absN L2) x89)⟩) (by repeat' (first | exact Agree.refl _ _ | refine Agree.up ?_ rfl | refine Agree.hav2 ?_ rfl | refine Agree.ups2 ?_ rfl)) (by refine ⟨congrArg (Value.int .i64) (by omega), trivial⟩) ?_)
          exact ⟨⟨hS103, (by show k1 ≤ L.length; omega), hA3, (EOk.del hE2 x89), hn90, (by show (t + ls (absN L2) x89) + k1 = L.length; omega)⟩, by (show k1 < k1 + 1); omega⟩
       ·
        have hc86b := hc86
        try simp only [decide_eq_true_eq, decide_eq_false_iff_not, Bool.not_eq_true', Bool.not_eq_false', Bool.and_eq_true, Bool.or_eq_true, Int.not_lt, Int.not_le, ne_eq, Decidable.not_not] at hc86
        refine wp_exit ?_
        refine hK81 _ _ ?_
        refine wp_seq_k (fun K104 hK104 => ?_)
        have hlq : (List.map Prod.fst L).length = L.length := List.length_map _
        refine wp_region_lit ?_
        refine l_e rfl (fun K hK => ?_)
        refine e_call (by kernel_rfl) (alive12_ok _) rfl (after_R hS83 (fun v105 w105 hv105 hS105 => ?_))
        clear hS83
        obtain rfl := hv105
        refine hK _ _ ?_; clear hK K
        refine l_q rfl rfl (q_moveB rfl) ?_
        refine l_on rfl rfl rfl ?_
        refine l_q rfl rfl (q_moveI rfl) ?_
        refine l_on rfl rfl rfl ?_
        refine l_q rfl rfl (q_moveS rfl) ?_
        refine l_on rfl rfl rfl ?_
        refine l_q rfl rfl (q_lenSl (e := 3) rfl (by kernel_rfl)) ?_
        refine l_on rfl rfl rfl ?_
        refine l_q rfl rfl (q_eql rfl rfl) ?_
        refine l_q rfl rfl (q_pickT rfl rfl rfl) ?_
        refine l_q rfl rfl (q_assignB rfl) ?_
        refine l_nil ?_
        refine hK104 _ _ ?_
        refine wp_ret ?_
        refine c_ret1 rfl rfl ?_
        first | exact ⟨_, rfl, rfl, hS105.drop⟩ | exact ⟨_, rfl, congrArg Value.bool (decide_eq_true (by omega)), hS105.drop⟩
  ·
   have hg16b := hg16
   try simp only [decide_eq_true_eq, decide_eq_false_iff_not, Bool.not_eq_true', Bool.not_eq_false', Bool.and_eq_true, Bool.or_eq_true, Int.not_lt, Int.not_le, ne_eq, Decidable.not_not] at hg16
   refine l_off rfl rfl rfl hg16b ?_
   refine l_off rfl rfl rfl hg16b ?_
   refine l_q rfl rfl (q_pickF rfl hg16b rfl) ?_
   refine l_nil ?_
   refine hK15 _ _ ?_
   refine c_condF rfl rfl ?_
   refine wp_exit ?_
   refine hK11 _ _ ?_
   refine wp_seq_k (fun K107 hK107 => ?_)
   refine wp_region_lit ?_
   refine l_q rfl rfl (q_moveP rfl) ?_
   refine l_e rfl (fun K hK => ?_)
   have hlm108 : (List.map Prod.fst L).length = L.length := List.length_map _
   refine e_call (by kernel_rfl) (nums_ok k mb s 0 0 L hn (by omega) (by omega) _ (hS13.blk (i := 0) rfl) (hS13.map (i := 1) rfl) (hE.mono (hS13.fz (i := 2) rfl))) rfl (after_N hS13 (fun v108 G108 w108 hv108 hS108 => ?_))
   clear hS13
   obtain ⟨ad108, cp108, rfl, rfl⟩ := hv108
   have hS109 : St _ _ [.ow 3 1 ad108 ((List.map Prod.fst L).length) cp108 (iv (List.map Prod.fst L)), _, _, .fz g] _ := hS108; clear hS108
   refine hK _ _ ?_; clear hK K
   refine l_q rfl rfl (q_assignS rfl) ?_
   refine l_nil ?_
   refine hK107 _ _ ?_
   refine wp_seq_k (fun K110 hK110 => ?_)
   refine wp_region_lit ?_
   refine l_q rfl rfl (q_assignI rfl) ?_
   refine l_nil ?_
   refine hK110 _ _ ?_
   refine wp_seq_k (fun K111 hK111 => ?_)
   refine wp_seq_k (fun K112 hK112 => ?_)
   refine wp_region_lit ?_
   refine l_q rfl rfl (q_assignI rfl) ?_
   refine l_nil ?_
   refine hK112 _ _ ?_
   refine wp_block ?_
   have hT := tos_ok hE
   have hS113 := hS109.fr3; clear hS109
   have hS114 := hS113.fr3; clear hS113
   have hS115 := hS114.fr3; clear hS114
   refine c_loop (τ := Nat × Nat) [(2, 2), (6, 11), (53, 102)] (fun x => (fun (m : Nat) (c : Nat) => [(6, .int .i64 (c : Int)), (7, .int .i64 (m : Int))]) x.1 x.2) (fun x w' => (fun (m : Nat) (c : Nat) => St w (fun _ => False) [.blk k (.cells #[.map (some mb), .int .i64 (s : Int), .int .i64 ((0 : Nat) : Int), .int .i64 ((0 : Nat) : Int)] 60), .mp (.int .i64) mb (List.map nc L), .fz g, .ow 3 1 ad108 ((List.map Prod.fst L).length) cp108 (iv (List.map Prod.fst L))] w' ∧ m ≤ 16 ∧ c = cntT (absN L) m ∧ c ≤ 100 * m) x.1 x.2) (fun x => (fun (m : Nat) (c : Nat) => 16 - m) x.1 x.2) (⟨0, 0⟩) ?_ (by repeat' (first | exact trivial | refine ⟨by first | rfl | exact int_succ _ | assumption, ?_⟩)) (fun x116 j116 w116 hJ116 K116 hK116 => ?_)
   ·
    exact ⟨hS115, (by omega), (cntT_zero hT).symm, (by omega)⟩
   ·
    obtain ⟨m, c⟩ := x116
    obtain ⟨hS116, hm, hc, hcb⟩ := hJ116
    try dsimp only at hS116 hm hc hcb ⊢
    refine wp_seq_k (fun K117 hK117 => ?_)
    refine wp_seq_k (fun K118 hK118 => ?_)
    refine wp_region_lit ?_
    refine l_q rfl rfl (q_moveI rfl) ?_
    refine l_q rfl rfl (q_lss rfl rfl) ?_
    refine l_nil ?_
    refine hK118 _ _ ?_
    refine c_cond rfl (fun hc119 => ?_) (fun hc119 => ?_)
    ·
     have hc119b := hc119
     try simp only [decide_eq_true_eq, decide_eq_false_iff_not, Bool.not_eq_true', Bool.not_eq_false', Bool.and_eq_true, Bool.or_eq_true, Int.not_lt, Int.not_le, ne_eq, Decidable.not_not] at hc119
     refine wp_skip ?_
     refine hK117 _ _ ?_
     refine wp_seq_k (fun K120 hK120 => ?_)
     refine wp_block ?_
     refine wp_seq_k (fun K121 hK121 => ?_)
     refine wp_region_lit ?_
     refine l_q rfl rfl (q_moveP rfl) ?_
     refine l_q rfl rfl (q_moveI rfl) ?_
     refine l_e rfl (fun K hK => ?_)
     have hnl122 := numsW_len (absN L) (m : Int); rw [absN_len] at hnl122
     refine e_call (by kernel_rfl) (to_ok2 k mb s 0 0 L hn (by omega) (by omega) (m : Int) (by omega) _ (hS116.blk (i := 0) rfl) (hS116.map (i := 1) rfl) (hE.mono (hS116.fz (i := 2) rfl))) rfl (after_N hS116 (fun v122 G122 w122 hv122 hS122 => ?_))
     clear hS116
     obtain ⟨ad122, cp122, rfl, rfl⟩ := hv122
     have hS123 : St _ _ [.ow 3 1 ad122 ((numsW (absN L) (m : Int)).length) cp122 (iv (numsW (absN L) (m : Int))), _, _, .fz g, _] _ := hS122; clear hS122
     refine hK _ _ ?_; clear hK K
     refine l_q rfl rfl (q_assignS rfl) ?_
     refine l_nil ?_
     refine hK121 _ _ ?_
     refine wp_seq_k (fun K124 hK124 => ?_)
     refine wp_region_lit ?_
     refine l_q rfl rfl (q_moveI rfl) ?_
     refine l_q rfl rfl (q_moveS rfl) ?_
     refine l_q rfl rfl (q_lenSl (e := 3) rfl (by kernel_rfl)) ?_
     refine l_q rfl rfl (q_addx rfl rfl (by first | decide | omega) (by first | decide | omega)) ?_
     refine l_q rfl rfl (q_assignI rfl) ?_
     refine l_nil ?_
     refine hK124 _ _ ?_
     refine wp_seq_k (fun K125 hK125 => ?_)
     refine wp_region_lit ?_
     refine l_q rfl rfl (q_assignI rfl) ?_
     refine l_nil ?_
     refine hK125 _ _ ?_
     refine wp_block ?_
     have hS126 := hS123.fr4; clear hS123
     have hS127 := hS126.fr4; clear hS126
     have hS128 := hS127.fr4; clear hS127
     have hS129 := hS128.fr4; clear hS128
     refine c_loop (τ := Nat) [(2, 2), (9, 11), (64, 102)] (fun x => (fun (j : Nat) => [(9, .int .i64 (j : Int))]) x) (fun x w' => (fun (j : Nat) => St w (fun _ => False) [.blk k (.cells #[.map (some mb), .int .i64 (s : Int), .int .i64 ((0 : Nat) : Int), .int .i64 ((0 : Nat) : Int)] 60), .mp (.int .i64) mb (List.map nc L), .fz g, .ow 3 1 ad108 ((List.map Prod.fst L).length) cp108 (iv (List.map Prod.fst L)), .ow 3 1 ad122 ((numsW (absN L) (m : Int)).length) cp122 (iv (numsW (absN L) (m : Int)))] w' ∧ j ≤ (numsW (absN L) (m : Int)).length) x) (fun x => (fun (j : Nat) => (numsW (absN L) (m : Int)).length - j) x) (0) ?_ (by repeat' (first | exact trivial | refine ⟨by first | rfl | exact int_succ _ | assumption, ?_⟩)) (fun j j130 w130 hJ130 K130 hK130 => ?_)
     ·
      exact ⟨hS129, Nat.zero_le _⟩
     ·
      obtain ⟨hS130, hj⟩ := hJ130
      try dsimp only at hS130 hj ⊢
      refine wp_seq_k (fun K131 hK131 => ?_)
      refine wp_seq_k (fun K132 hK132 => ?_)
      refine wp_region_lit ?_
      refine l_q rfl rfl (q_moveI rfl) ?_
      refine l_q rfl rfl (q_moveS rfl) ?_
      refine l_q rfl rfl (q_lenSl (e := 3) rfl (by kernel_rfl)) ?_
      refine l_q rfl rfl (q_lss rfl rfl) ?_
      refine l_nil ?_
      refine hK132 _ _ ?_
      refine c_cond rfl (fun hc133 => ?_) (fun hc133 => ?_)
      ·
       have hc133b := hc133
       try simp only [decide_eq_true_eq, decide_eq_false_iff_not, Bool.not_eq_true', Bool.not_eq_false', Bool.and_eq_true, Bool.or_eq_true, Int.not_lt, Int.not_le, ne_eq, Decidable.not_not] at hc133
       refine wp_skip ?_
       refine hK131 _ _ ?_
       refine wp_seq_k (fun K134 hK134 => ?_)
       refine wp_block ?_
       refine wp_seq_k (fun K135 hK135 => ?_)
       refine wp_region_lit ?_
       refine l_q rfl rfl (q_moveP rfl) ?_
       refine l_q rfl rfl (q_moveS rfl) ?_
       refine l_q rfl rfl (q_moveI rfl) ?_
       refine l_q rfl rfl (q_ixG (e := 3) (m := 1) (j := j) rfl rfl (by kernel_rfl) (by kernel_rfl) (by first | rfl | omega) (by omega) (hS130.owG (i := 4) rfl) (by rw [iv_len]; first | omega | (simp only [List.length_append, List.length_map, List.length_cons, List.length_nil, List.length_take, List.length_drop, List.length_set] <;> omega))) ?_
       obtain ⟨x136, hx136⟩ : ∃ x, ((numsW (absN L) (m : Int)))[j]? = some x := ⟨_, List.getElem?_eq_getElem (by first | omega | (simp only [List.length_append, List.length_map, List.length_cons, List.length_nil, List.length_take, List.length_drop, List.length_set] <;> omega) | (simp <;> omega))⟩
       refine l_q rfl rfl (q_load1 rfl (by kernel_rfl) (SlG.cell (hS130.owG (i := 4) rfl) (Gle.refl _) (at1 (iv_at hx136)))) ?_
       refine l_e rfl (fun K hK => ?_)
       obtain ⟨ly, hmy, hty⟩ := numsW_mem (by omega) (List.mem_of_getElem? hx136)
       refine e_call (by kernel_rfl) (look_any k mb s 0 0 L hn x136 _ (hS130.blk (i := 0) rfl) (hS130.map (i := 1) rfl) (hE.mono (hS130.fz (i := 2) rfl))) rfl (after_N hS130 (fun v137 G137 w137 hv137 hS137 => ?_))
       clear hS130
       obtain ⟨l137, b137, an137, cn137, rfl, rfl, hs137⟩ := hv137
       have hS138 : St _ _ [.ow 3 1 an137 l137.nd.length cn137 (iv l137.nd), _, _, .fz g, _, _] _ := hS137; clear hS137
       obtain ⟨hv137, hb137⟩ := tk_val hs137 (hn.tkv hmy); have ht137 : l137.t = (m : Int) := by rw [hv137, hty]
       refine hK _ _ ?_; clear hK K
       refine l_q rfl rfl (q_move rfl) ?_
       refine l_q rfl rfl (q_extract rfl rfl) ?_
       refine l_q rfl rfl (q_extract rfl rfl) ?_
       refine l_e rfl (fun K hK => ?_)
       refine e_alloc (zv := .agg #[.int .i64 0, .int .i64 0, .int .i64 0, .int .i64 0, .slice none 0 0]) hS138 (by kernel_rfl) (fun b139 w139 (hS139 : St _ _ [.blk b139 (.cells #[.int .i64 (0 : Int), .int .i64 (0 : Int), .int .i64 (0 : Int), .int .i64 (0 : Int), .slice none 0 0] 25), _, _, _, .fz g, _, _] _) => ?_)
       clear hS138
       refine hK _ _ ?_; clear hK K
       refine l_e rfl (fun K hK => ?_)
       refine e_storeA hS139 rfl rfl (by kernel_rfl) (by repeat' (first | exact trivial | refine ⟨by first | rfl | assumption | exact one_if (by assumption), ?_⟩)) (i := 0) rfl rfl (fun w140 (hS140 : St _ _ [.blk b139 (.cells #[.int .i64 l137.k, .int .i64 l137.f, .int .i64 l137.t, .int .i64 l137.x, .slice an137 l137.nd.length cn137] 25), _, _, _, .fz g, _, _] _) => ?_)
       clear hS139
       refine hK _ _ ?_; clear hK K
       refine l_q rfl rfl (q_assignI rfl) ?_
       refine l_nil ?_
       refine hK135 _ _ ?_
       refine wp_seq_k (fun K141 hK141 => ?_)
       refine r_any (by kernel_rfl) hS140 (fun w142 hS142 => ?_)
       clear hS140
       refine o_pure (i := 0) (fun _ _ => trivial) rfl rfl (by kernel_rfl) (goes0 rfl) (QOk.then (QOk.inBlock (QOk.then (QOk.then (QOk.inBlock (QOk.inBlock (QOk.then (QOk.then (QOk.inBlock (QOk.then QOk.body)))))))))) (fun w => q_moveI rfl) ?_
       refine o_pure (i := 1) (fun _ _ => trivial) rfl rfl (by kernel_rfl) (goes0 rfl) (QOk.then (QOk.inBlock (QOk.then (QOk.then (QOk.inBlock (QOk.inBlock (QOk.then (QOk.then (QOk.inBlock (QOk.then QOk.body)))))))))) (fun w => q_neq rfl rfl) ?_
       refine o_pure (i := 2) (fun _ _ => trivial) rfl rfl (by kernel_rfl) (goes0 rfl) (QOk.then (QOk.inBlock (QOk.then (QOk.then (QOk.inBlock (QOk.inBlock (QOk.then (QOk.then (QOk.inBlock (QOk.then QOk.body)))))))))) (fun w => q_moveB rfl) ?_
       refine g_splitO (t := 81) rfl (fun hg143 => ?_) (fun hg143 => ?_)
       ·
        have hg143b := hg143
        try simp only [decide_eq_true_eq, decide_eq_false_iff_not, Bool.not_eq_true', Bool.not_eq_false', Bool.and_eq_true, Bool.or_eq_true, Int.not_lt, Int.not_le, ne_eq, Decidable.not_not] at hg143
        exfalso; first | omega | exact hg143 trivial
       ·
        have hg143b := hg143
        try simp only [decide_eq_true_eq, decide_eq_false_iff_not, Bool.not_eq_true', Bool.not_eq_false', Bool.and_eq_true, Bool.or_eq_true, Int.not_lt, Int.not_le, ne_eq, Decidable.not_not] at hg143
        refine o_pure (i := 3) (fun _ _ => trivial) rfl rfl (by kernel_rfl) (goes1 rfl rfl hg143b) (QOk.then (QOk.inBlock (QOk.then (QOk.then (QOk.inBlock (QOk.inBlock (QOk.then (QOk.then (QOk.inBlock (QOk.then QOk.body)))))))))) (fun w => q_fieldAddr (ft := 3) (o := 2) rfl (by kernel_rfl)) ?_
        refine o_held (i := 4) [6, 7, 8, 9, 10, 11, 12, 13, 14, 15, 16, 17, 18, 19, 20, 21, 22, 23] (fun _ _ => trivial) rfl rfl (by kernel_rfl) (goes1 rfl rfl hg143b) (QOk.then (QOk.inBlock (QOk.then (QOk.then (QOk.inBlock (QOk.inBlock (QOk.then (QOk.then (QOk.inBlock (QOk.then QOk.body)))))))))) (q_load1 rfl (by kernel_rfl) (hS142.cell (i := 0) rfl rfl)) ?_
        refine o_pure (i := 5) (fun j w => ⟨(fun _ _ => trivial) j w, fun _ h => h⟩) rfl rfl (by kernel_rfl) (goes1 rfl rfl hg143b) (QOk.then (QOk.inBlock (QOk.then (QOk.then (QOk.inBlock (QOk.inBlock (QOk.then (QOk.then (QOk.inBlock (QOk.then QOk.body)))))))))) (fun w => q_moveI rfl) ?_
        refine o_pure (i := 6) (fun j w => ⟨(fun _ _ => trivial) j w, fun _ h => h⟩) rfl rfl (by kernel_rfl) (goes1 rfl rfl hg143b) (QOk.then (QOk.inBlock (QOk.then (QOk.then (QOk.inBlock (QOk.inBlock (QOk.then (QOk.then (QOk.inBlock (QOk.then QOk.body)))))))))) (fun w => q_neq rfl rfl) ?_
        refine o_pure (i := 7) (fun j w => ⟨(fun _ _ => trivial) j w, fun _ h => h⟩) rfl rfl (by kernel_rfl) (goes0 rfl) (QOk.then (QOk.inBlock (QOk.then (QOk.then (QOk.inBlock (QOk.inBlock (QOk.then (QOk.then (QOk.inBlock (QOk.then QOk.body)))))))))) (fun w => q_pickF rfl hg143b rfl) ?_
        refine o_pure (i := 8) (fun j w => ⟨(fun _ _ => trivial) j w, fun _ h => h⟩) rfl rfl (by kernel_rfl) (goes0 rfl) (QOk.then (QOk.inBlock (QOk.then (QOk.then (QOk.inBlock (QOk.inBlock (QOk.then (QOk.then (QOk.inBlock (QOk.then QOk.body)))))))))) (fun w => q_moveB rfl) ?_
        refine g_splitO (t := 87) rfl (fun hg144 => ?_) (fun hg144 => ?_)
        ·
         have hg144b := hg144
         try simp only [decide_eq_true_eq, decide_eq_false_iff_not, Bool.not_eq_true', Bool.not_eq_false', Bool.and_eq_true, Bool.or_eq_true, Int.not_lt, Int.not_le, ne_eq, Decidable.not_not] at hg144
         exfalso; first | omega | exact hg144 trivial
        ·
         have hg144b := hg144
         try simp only [decide_eq_true_eq, decide_eq_false_iff_not, Bool.not_eq_true', Bool.not_eq_false', Bool.and_eq_true, Bool.or_eq_true, Int.not_lt, Int.not_le, ne_eq, Decidable.not_not] at hg144
         refine o_pure (i := 9) (fun j w => ⟨(fun _ _ => trivial) j w, fun _ h => h⟩) rfl rfl (by kernel_rfl) (goes1 rfl rfl hg144b) (QOk.then (QOk.inBlock (QOk.then (QOk.then (QOk.inBlock (QOk.inBlock (QOk.then (QOk.then (QOk.inBlock (QOk.then QOk.body)))))))))) (fun w => q_moveI rfl) ?_
         refine o_pure (i := 10) (fun j w => ⟨(fun _ _ => trivial) j w, fun _ h => h⟩) rfl rfl (by kernel_rfl) (goes1 rfl rfl hg144b) (QOk.then (QOk.inBlock (QOk.then (QOk.then (QOk.inBlock (QOk.inBlock (QOk.then (QOk.then (QOk.inBlock (QOk.then QOk.body)))))))))) (fun w => q_gtr rfl rfl) ?_
         refine o_pure (i := 11) (fun j w => ⟨(fun _ _ => trivial) j w, fun _ h => h⟩) rfl rfl (by kernel_rfl) (goes1 rfl rfl hg144b) (QOk.then (QOk.inBlock (QOk.then (QOk.then (QOk.inBlock (QOk.inBlock (QOk.then (QOk.then (QOk.inBlock (QOk.then QOk.body)))))))))) (fun w => q_moveB rfl) ?_
         refine g_splitO (t := 90) rfl (fun hg145 => ?_) (fun hg145 => ?_)
         ·
          have hg145b := hg145
          try simp only [decide_eq_true_eq, decide_eq_false_iff_not, Bool.not_eq_true', Bool.not_eq_false', Bool.and_eq_true, Bool.or_eq_true, Int.not_lt, Int.not_le, ne_eq, Decidable.not_not] at hg145
          refine o_pure (i := 12) (fun j w => ⟨(fun _ _ => trivial) j w, fun _ h => h⟩) rfl rfl (by kernel_rfl) (goes1 rfl rfl hg145b) (QOk.then (QOk.inBlock (QOk.then (QOk.then (QOk.inBlock (QOk.inBlock (QOk.then (QOk.then (QOk.inBlock (QOk.then QOk.body)))))))))) (fun w => q_moveS rfl) ?_
          refine o_pure (i := 13) (fun j w => ⟨(fun _ _ => trivial) j w, fun _ h => h⟩) rfl rfl (by kernel_rfl) (goes1 rfl rfl hg145b) (QOk.then (QOk.inBlock (QOk.then (QOk.then (QOk.inBlock (QOk.inBlock (QOk.then (QOk.then (QOk.inBlock (QOk.then QOk.body)))))))))) (fun w => q_moveI rfl) ?_
          refine o_pure (i := 14) (fun j w => ⟨(fun _ _ => trivial) j w, fun _ h => h⟩) rfl rfl (by kernel_rfl) (goes1 rfl rfl hg145b) (QOk.then (QOk.inBlock (QOk.then (QOk.then (QOk.inBlock (QOk.inBlock (QOk.then (QOk.then (QOk.inBlock (QOk.then QOk.body)))))))))) (fun w => q_subx rfl rfl (by first | decide | omega) (by first | decide | omega)) ?_
          refine o_pure (i := 15) (fun j w => ⟨(fun _ _ => trivial) j w, fun _ h => h⟩) rfl rfl (by kernel_rfl) (goes1 rfl rfl hg145b) (QOk.then (QOk.inBlock (QOk.then (QOk.then (QOk.inBlock (QOk.inBlock (QOk.then (QOk.then (QOk.inBlock (QOk.then QOk.body)))))))))) (fun w => q_ixG (e := 3) (m := 1) (j := (j - 1)) rfl rfl (by kernel_rfl) (by kernel_rfl) (by first | rfl | omega) (by omega) (hS142.owG (i := 6) rfl) (by rw [iv_len]; first | omega | (simp only [List.length_append, List.length_map, List.length_cons, List.length_nil, List.length_take, List.length_drop, List.length_set] <;> omega))) ?_
          obtain ⟨x146, hx146⟩ : ∃ x, ((numsW (absN L) (m : Int)))[(j - 1)]? = some x := ⟨_, List.getElem?_eq_getElem (by first | omega | (simp only [List.length_append, List.length_map, List.length_cons, List.length_nil, List.length_take, List.length_drop, List.length_set] <;> omega) | (simp <;> omega))⟩
          refine o_held (i := 16) [21, 22, 23] (fun j w => ⟨(fun _ _ => trivial) j w, fun _ h => h⟩) rfl rfl (by kernel_rfl) (goes1 rfl rfl hg145b) (QOk.then (QOk.inBlock (QOk.then (QOk.then (QOk.inBlock (QOk.inBlock (QOk.then (QOk.then (QOk.inBlock (QOk.then QOk.body)))))))))) (q_load1 rfl (by kernel_rfl) (SlG.cell (hS142.owG (i := 6) rfl) (Gle.refl _) (at1 (iv_at hx146)))) ?_
          refine o_pure (i := 17) (fun j w => ⟨(fun j w => ⟨(fun _ _ => trivial) j w, fun _ h => h⟩) j w, fun _ h => h⟩) rfl rfl (by kernel_rfl) (goes1 rfl rfl hg145b) (QOk.then (QOk.inBlock (QOk.then (QOk.then (QOk.inBlock (QOk.inBlock (QOk.then (QOk.then (QOk.inBlock (QOk.then QOk.body)))))))))) (fun w => q_moveS rfl) ?_
          refine o_pure (i := 18) (fun j w => ⟨(fun j w => ⟨(fun _ _ => trivial) j w, fun _ h => h⟩) j w, fun _ h => h⟩) rfl rfl (by kernel_rfl) (goes1 rfl rfl hg145b) (QOk.then (QOk.inBlock (QOk.then (QOk.then (QOk.inBlock (QOk.inBlock (QOk.then (QOk.then (QOk.inBlock (QOk.then QOk.body)))))))))) (fun w => q_moveI rfl) ?_
          refine o_pure (i := 19) (fun j w => ⟨(fun j w => ⟨(fun _ _ => trivial) j w, fun _ h => h⟩) j w, fun _ h => h⟩) rfl rfl (by kernel_rfl) (goes1 rfl rfl hg145b) (QOk.then (QOk.inBlock (QOk.then (QOk.then (QOk.inBlock (QOk.inBlock (QOk.then (QOk.then (QOk.inBlock (QOk.then QOk.body)))))))))) (fun w => q_ixG (e := 3) (m := 1) (j := j) rfl rfl (by kernel_rfl) (by kernel_rfl) (by first | rfl | omega) (by omega) (hS142.owG (i := 6) rfl) (by rw [iv_len]; first | omega | (simp only [List.length_append, List.length_map, List.length_cons, List.length_nil, List.length_take, List.length_drop, List.length_set] <;> omega))) ?_
          refine o_held (i := 20) [21, 22, 23] (fun j w => ⟨(fun j w => ⟨(fun _ _ => trivial) j w, fun _ h => h⟩) j w, fun _ h => h⟩) rfl rfl (by kernel_rfl) (goes1 rfl rfl hg145b) (QOk.then (QOk.inBlock (QOk.then (QOk.then (QOk.inBlock (QOk.inBlock (QOk.then (QOk.then (QOk.inBlock (QOk.then QOk.body)))))))))) (q_load1 rfl (by kernel_rfl) (SlG.cell (hS142.owG (i := 6) rfl) (Gle.refl _) (at1 (iv_at hx136)))) ?_
          refine o_pure (i := 21) (fun j w => ⟨(fun j w => ⟨(fun j w => ⟨(fun _ _ => trivial) j w, fun _ h => h⟩) j w, fun _ h => h⟩) j w, fun _ h => h⟩) rfl rfl (by kernel_rfl) (goes1 rfl rfl hg145b) (QOk.then (QOk.inBlock (QOk.then (QOk.then (QOk.inBlock (QOk.inBlock (QOk.then (QOk.then (QOk.inBlock (QOk.then QOk.body)))))))))) (fun w => q_geq rfl rfl) ?_
          refine o_pure (i := 22) (fun j w => ⟨(fun j w => ⟨(fun j w => ⟨(fun _ _ => trivial) j w, fun _ h => h⟩) j w, fun _ h => h⟩) j w, fun _ h => h⟩) rfl rfl (by kernel_rfl) (goes1 rfl rfl hg144b) (QOk.then (QOk.inBlock (QOk.then (QOk.then (QOk.inBlock (QOk.inBlock (QOk.then (QOk.then (QOk.inBlock (QOk.then QOk.body)))))))))) (fun w => q_pickT rfl hg145b rfl) ?_
          refine o_pure (i := 23) (fun j w => ⟨(fun j w => ⟨(fun j w => ⟨(fun _ _ => trivial) j w, fun _ h => h⟩) j w, fun _ h => h⟩) j w, fun _ h => h⟩) rfl rfl (by kernel_rfl) (goes0 rfl) (QOk.then (QOk.inBlock (QOk.then (QOk.then (QOk.inBlock (QOk.inBlock (QOk.then (QOk.then (QOk.inBlock (QOk.then QOk.body)))))))))) (fun w => q_pickF rfl hg144b rfl) ?_
          refine o_done (by kernel_rfl) ?_
          refine hK141 _ _ ?_
          refine c_cond rfl (fun hc147 => ?_) (fun hc147 => ?_)
          ·
           have hc147b := hc147
           try simp only [decide_eq_true_eq, decide_eq_false_iff_not, Bool.not_eq_true', Bool.not_eq_false', Bool.and_eq_true, Bool.or_eq_true, Int.not_lt, Int.not_le, ne_eq, Decidable.not_not] at hc147
           have hrs := rise_at (numsW_rise hn _) hx146 hx136 (by omega); exfalso; omega
          ·
           have hc147b := hc147
           try simp only [decide_eq_true_eq, decide_eq_false_iff_not, Bool.not_eq_true', Bool.not_eq_false', Bool.and_eq_true, Bool.or_eq_true, Int.not_lt, Int.not_le, ne_eq, Decidable.not_not] at hc147
           refine wp_skip ?_
           refine hK134 _ _ ?_
           refine wp_region_lit ?_
           refine l_q rfl rfl (q_moveI rfl) ?_
           refine l_q rfl rfl (q_addx rfl rfl (by first | decide | omega) (by first | decide | omega)) ?_
           refine l_q rfl rfl (q_assignI rfl) ?_
           refine l_nil ?_
           have hS148 := hS142.fr6; clear hS142
           have hS149 := hS148.fr6; clear hS148
           have hS150 := hS149.fr6; clear hS149
           have hS151 := hS150.fr6; clear hS150
           have hS152 := hS151.fr6; clear hS151
           have hS153 : St _ _ [_, _, .fz g, _, _] _ := hS152.only 5; clear hS152
           refine hK130 _ _ (came ((j + 1)) (by repeat' (first | exact Agree.refl _ _ | refine Agree.up ?_ rfl | refine Agree.hav2 ?_ rfl | refine Agree.ups2 ?_ rfl)) (by repeat' (first | exact trivial | refine ⟨by first | rfl | exact int_succ _ | assumption, ?_⟩)) ?_)
           exact ⟨⟨hS153, (by show j + 1 ≤ (numsW (absN L) (m : Int)).length; omega)⟩, by (show (numsW (absN L) (m : Int)).length - (j + 1) < (numsW (absN L) (m : Int)).length - j); omega⟩
         ·
          have hg145b := hg145
          try simp only [decide_eq_true_eq, decide_eq_false_iff_not, Bool.not_eq_true', Bool.not_eq_false', Bool.and_eq_true, Bool.or_eq_true, Int.not_lt, Int.not_le, ne_eq, Decidable.not_not] at hg145
          refine o_off (i := 12) (fun j w => ⟨(fun _ _ => trivial) j w, fun _ h => h⟩) rfl rfl (by kernel_rfl) rfl rfl hg145b (QOk.then (QOk.inBlock (QOk.then (QOk.then (QOk.inBlock (QOk.inBlock (QOk.then (QOk.then (QOk.inBlock (QOk.then QOk.body)))))))))) ?_
          refine o_off (i := 13) (fun j w => ⟨(fun _ _ => trivial) j w, fun _ h => h⟩) rfl rfl (by kernel_rfl) rfl rfl hg145b (QOk.then (QOk.inBlock (QOk.then (QOk.then (QOk.inBlock (QOk.inBlock (QOk.then (QOk.then (QOk.inBlock (QOk.then QOk.body)))))))))) ?_
          refine o_off (i := 14) (fun j w => ⟨(fun _ _ => trivial) j w, fun _ h => h⟩) rfl rfl (by kernel_rfl) rfl rfl hg145b (QOk.then (QOk.inBlock (QOk.then (QOk.then (QOk.inBlock (QOk.inBlock (QOk.then (QOk.then (QOk.inBlock (QOk.then QOk.body)))))))))) ?_
          refine o_off (i := 15) (fun j w => ⟨(fun _ _ => trivial) j w, fun _ h => h⟩) rfl rfl (by kernel_rfl) rfl rfl hg145b (QOk.then (QOk.inBlock (QOk.then (QOk.then (QOk.inBlock (QOk.inBlock (QOk.then (QOk.then (QOk.inBlock (QOk.then QOk.body)))))))))) ?_
          refine o_off (i := 16) (fun j w => ⟨(fun _ _ => trivial) j w, fun _ h => h⟩) rfl rfl (by kernel_rfl) rfl rfl hg145b (QOk.then (QOk.inBlock (QOk.then (QOk.then (QOk.inBlock (QOk.inBlock (QOk.then (QOk.then (QOk.inBlock (QOk.then QOk.body)))))))))) ?_
          refine o_off (i := 17) (fun j w => ⟨(fun _ _ => trivial) j w, fun _ h => h⟩) rfl rfl (by kernel_rfl) rfl rfl hg145b (QOk.then (QOk.inBlock (QOk.then (QOk.then (QOk.inBlock (QOk.inBlock (QOk.then (QOk.then (QOk.inBlock (QOk.then QOk.body)))))))))) ?_
          refine o_off (i := 18) (fun j w => ⟨(fun _ _ => trivial) j w, fun _ h => h⟩) rfl rfl (by kernel_rfl) rfl rfl hg145b (QOk.then (QOk.inBlock (QOk.then (QOk.then (QOk.inBlock (QOk.inBlock (QOk.then (QOk.then (QOk.inBlock (QOk.then QOk.body)))))))))) ?_
          refine o_off (i := 19) (fun j w => ⟨(fun _ _ => trivial) j w, fun _ h => h⟩) rfl rfl (by kernel_rfl) rfl rfl hg145b (QOk.then (QOk.inBlock (QOk.then (QOk.then (QOk.inBlock (QOk.inBlock (QOk.then (QOk.then (QOk.inBlock (QOk.then QOk.body)))))))))) ?_
          refine o_off (i := 20) (fun j w => ⟨(fun _ _ => trivial) j w, fun _ h => h⟩) rfl rfl (by kernel_rfl) rfl rfl hg145b (QOk.then (QOk.inBlock (QOk.then (QOk.then (QOk.inBlock (QOk.inBlock (QOk.then (QOk.then (QOk.inBlock (QOk.then QOk.body)))))))))) ?_
          refine o_off (i := 21) (fun j w => ⟨(fun _ _ => trivial) j w, fun _ h => h⟩) rfl rfl (by kernel_rfl) rfl rfl hg145b (QOk.then (QOk.inBlock (QOk.then (QOk.then (QOk.inBlock (QOk.inBlock (QOk.then (QOk.then (QOk.inBlock (QOk.then QOk.body)))))))))) ?_
          refine o_pure (i := 22) (fun j w => ⟨(fun _ _ => trivial) j w, fun _ h => h⟩) rfl rfl (by kernel_rfl) (goes1 rfl rfl hg144b) (QOk.then (QOk.inBlock (QOk.then (QOk.then (QOk.inBlock (QOk.inBlock (QOk.then (QOk.then (QOk.inBlock (QOk.then QOk.body)))))))))) (fun w => q_pickF rfl hg145b rfl) ?_
          refine o_pure (i := 23) (fun j w => ⟨(fun _ _ => trivial) j w, fun _ h => h⟩) rfl rfl (by kernel_rfl) (goes0 rfl) (QOk.then (QOk.inBlock (QOk.then (QOk.then (QOk.inBlock (QOk.inBlock (QOk.then (QOk.then (QOk.inBlock (QOk.then QOk.body)))))))))) (fun w => q_pickF rfl hg144b rfl) ?_
          refine o_done (by kernel_rfl) ?_
          refine hK141 _ _ ?_
          refine c_condF rfl rfl ?_
          refine wp_skip ?_
          refine hK134 _ _ ?_
          refine wp_region_lit ?_
          refine l_q rfl rfl (q_moveI rfl) ?_
          refine l_q rfl rfl (q_addx rfl rfl (by first | decide | omega) (by first | decide | omega)) ?_
          refine l_q rfl rfl (q_assignI rfl) ?_
          refine l_nil ?_
          have hS155 := hS142.fr6; clear hS142
          have hS156 := hS155.fr6; clear hS155
          have hS157 := hS156.fr6; clear hS156
          have hS158 := hS157.fr6; clear hS157
          have hS159 := hS158.fr6; clear hS158
          have hS160 : St _ _ [_, _, .fz g, _, _] _ := hS159.only 5; clear hS159
          refine hK130 _ _ (came ((j + 1)) (by repeat' (first | exact Agree.refl _ _ | refine Agree.up ?_ rfl | refine Agree.hav2 ?_ rfl | refine Agree.ups2 ?_ rfl)) (by repeat' (first | exact trivial | refine ⟨by first | rfl | exact int_succ _ | assumption, ?_⟩)) ?_)
          exact ⟨⟨hS160, (by show j + 1 ≤ (numsW (absN L) (m : Int)).length; omega)⟩, by (show (numsW (absN L) (m : Int)).length - (j + 1) < (numsW (absN L) (m : Int)).length - j); omega⟩
      ·
       have hc133b := hc133
       try simp only [decide_eq_true_eq, decide_eq_false_iff_not, Bool.not_eq_true', Bool.not_eq_false', Bool.and_eq_true, Bool.or_eq_true, Int.not_lt, Int.not_le, ne_eq, Decidable.not_not] at hc133
       refine wp_exit ?_
       refine hK120 _ _ ?_
       refine wp_region_lit ?_
       refine l_q rfl rfl (q_moveI rfl) ?_
       refine l_q rfl rfl (q_addx rfl rfl (by first | decide | omega) (by first | decide | omega)) ?_
       refine l_q rfl rfl (q_assignI rfl) ?_
       refine l_nil ?_
       have hS161 : St _ _ [_, _, .fz g, _] _ := hS130.only 4; clear hS130
       refine hK116 _ _ (came (⟨(m + 1), (c + (numsW (absN L) (m : Int)).length)⟩) (by repeat' (first | exact Agree.refl _ _ | refine Agree.up ?_ rfl | refine Agree.hav2 ?_ rfl | refine Agree.ups2 ?_ rfl)) (by repeat' (first | exact trivial | refine ⟨by first | rfl | exact int_succ _ | assumption, ?_⟩)) ?_)
       exact ⟨⟨hS161, (by show m + 1 ≤ 16; omega), (by rw [cntT_succ, hc]), (by show c + (numsW (absN L) (m : Int)).length ≤ 100 * (m + 1); omega)⟩, by (show 16 - (m + 1) < 16 - m); omega⟩
    ·
     have hc119b := hc119
     try simp only [decide_eq_true_eq, decide_eq_false_iff_not, Bool.not_eq_true', Bool.not_eq_false', Bool.and_eq_true, Bool.or_eq_true, Int.not_lt, Int.not_le, ne_eq, Decidable.not_not] at hc119
     refine wp_exit ?_
     refine hK111 _ _ ?_
     refine wp_seq_k (fun K162 hK162 => ?_)
     refine wp_seq_k (fun K163 hK163 => ?_)
     have hm16 : m = 16 := by omega
     rw [hm16, cntT_all hT, absN_len] at hc
     refine wp_region_lit ?_
     refine l_q rfl rfl (q_moveS rfl) ?_
     refine l_q rfl rfl (q_lenSl (e := 3) rfl (by kernel_rfl)) ?_
     refine l_q rfl rfl (q_subx rfl rfl (by first | decide | omega) (by first | decide | omega)) ?_
     refine l_q rfl rfl (q_assignI rfl) ?_
     refine l_nil ?_
     refine hK163 _ _ ?_
     refine wp_block ?_
     refine c_loop (τ := Nat × (List (Int × Ent)) × Nat) [(2, 2), (12, 14), (106, 127)] (fun x => (fun (kk : Nat) (L2 : List (Int × Ent)) (t : Nat) => [(12, .int .i64 ((kk : Int) - 1))]) x.1 x.2.1 x.2.2) (fun x w' => (fun (kk : Nat) (L2 : List (Int × Ent)) (t : Nat) => St w (fun _ => False) [.blk k (.cells #[.map (some mb), .int .i64 (s : Int), .int .i64 (t : Int), .int .i64 ((0 : Nat) : Int)] 60), .mp (.int .i64) mb (List.map nc L2), .fz g, .ow 3 1 ad108 ((List.map Prod.fst L).length) cp108 (iv (List.map Prod.fst L))] w' ∧ kk ≤ L.length ∧ absN L2 = (absN L).take kk ∧ EOk g L2 ∧ NumOk (absN L2) s ∧ t + kk = L.length) x.1 x.2.1 x.2.2) (fun x => (fun (kk : Nat) (L2 : List (Int × Ent)) (t : Nat) => kk) x.1 x.2.1 x.2.2) (⟨(List.map Prod.fst L).length, L, 0⟩) ?_ (by repeat' (first | exact trivial | refine ⟨by first | rfl | exact int_succ _ | assumption, ?_⟩)) (fun x164 j164 w164 hJ164 K164 hK164 => ?_)
     ·
      have hlmm : (List.map Prod.fst L).length = L.length := List.length_map _
      exact ⟨hS116, (by omega), (by rw [List.take_of_length_le (by rw [absN_len]; omega)]), hE, hn, (by show 0 + (List.map Prod.fst L).length = L.length; omega)⟩
     ·
      obtain ⟨kk, L2, t⟩ := x164
      obtain ⟨hS164, hk6, hA2, hE2, hn2, htk⟩ := hJ164
      try dsimp only at hS164 hk6 hA2 hE2 hn2 htk ⊢
      refine wp_seq_k (fun K165 hK165 => ?_)
      refine wp_seq_k (fun K166 hK166 => ?_)
      refine wp_region_lit ?_
      refine l_q rfl rfl (q_moveI rfl) ?_
      refine l_q rfl rfl (q_geq rfl rfl) ?_
      refine l_nil ?_
      refine hK166 _ _ ?_
      refine c_cond rfl (fun hc167 => ?_) (fun hc167 => ?_)
      ·
       have hc167b := hc167
       try simp only [decide_eq_true_eq, decide_eq_false_iff_not, Bool.not_eq_true', Bool.not_eq_false', Bool.and_eq_true, Bool.or_eq_true, Int.not_lt, Int.not_le, ne_eq, Decidable.not_not] at hc167
       obtain ⟨k1, rfl⟩ : ∃ q, kk = q + 1 := ⟨kk - 1, by omega⟩
       refine wp_skip ?_
       refine hK165 _ _ ?_
       refine wp_seq_k (fun K168 hK168 => ?_)
       refine wp_block ?_
       refine wp_seq_k (fun K169 hK169 => ?_)
       refine wp_region_lit ?_
       refine l_q rfl rfl (q_moveP rfl) ?_
       refine l_q rfl rfl (q_moveS rfl) ?_
       refine l_q rfl rfl (q_moveI rfl) ?_
       refine l_q rfl rfl (q_ixG (e := 3) (m := 1) (j := k1) rfl rfl (by kernel_rfl) (by kernel_rfl) (by first | rfl | omega) (by omega) (hS164.owG (i := 3) rfl) (by rw [iv_len]; first | omega | (simp only [List.length_append, List.length_map, List.length_cons, List.length_nil, List.length_take, List.length_drop, List.length_set] <;> omega))) ?_
       obtain ⟨x170, hx170⟩ : ∃ x, ((List.map Prod.fst L))[k1]? = some x := ⟨_, List.getElem?_eq_getElem (by first | omega | (simp only [List.length_append, List.length_map, List.length_cons, List.length_nil, List.length_take, List.length_drop, List.length_set] <;> omega) | (simp <;> omega))⟩
       refine l_q rfl rfl (q_load1 rfl (by kernel_rfl) (SlG.cell (hS164.owG (i := 3) rfl) (Gle.refl _) (at1 (iv_at hx170)))) ?_
       refine l_e rfl (fun K hK => ?_)
       obtain ⟨lz1, hz1⟩ := last_at hx170; have hA4 := hA2.trans (take_last hz1); have hmz : (x170, lz1) ∈ absN L2 := by rw [hA4]; exact List.mem_append_right _ (.head _)
       refine e_call (by kernel_rfl) (take_any k mb s t 0 L2 g hE2 hn2 (by omega) x170 _ (St.begin (Γ := [_, _, _]) hS164)) rfl (after_M (Γ1 := [_, _, _]) hS164 (fun v171 G171 w171 hv171 hS171 => ?_))
       clear hS164
       obtain ⟨l171, b171, an171, cn171, rfl, rfl, hs171⟩ := hv171
       have hS172 : St _ _ [.blk k (.cells #[.map (some mb), .int .i64 (s : Int), .int .i64 (((t + ls (absN L2) x170) : Nat) : Int), .int .i64 ((0 : Nat) : Int)] 60), .mp (.int .i64) mb (List.map nc (mdel L2 x170)), .fz g, .ow 3 1 an171 l171.nd.length cn171 (iv l171.nd), _] _ := hS171; clear hS171
       have hn171 : NumOk (absN (mdel L2 x170)) s := by rw [absN_del]; exact hn2.del _
       have hgl171 := ls_add (absN L2) x170; rw [← absN_del, absN_len, absN_len] at hgl171
       obtain ⟨hv171, hb171⟩ := tk_val hs171 (hn2.tkv hmz)
       have hl1171 := hn2.ls hmz
       have hA3 : absN (mdel L2 x170) = (absN L).take k1 := by rw [absN_del, hA4]; exact mdel_last (by rw [← hA4]; exact hn2)
       have hl3 : (mdel L2 x170).length = k1 := by rw [← absN_len, hA3, List.length_take, absN_len]; omega
       refine hK _ _ ?_; clear hK K
       refine l_q rfl rfl (q_move rfl) ?_
       refine l_q rfl rfl (q_extract rfl rfl) ?_
       refine l_q rfl rfl (q_extract rfl rfl) ?_
       refine l_e rfl (fun K hK => ?_)
       refine e_alloc (zv := .agg #[.int .i64 0, .int .i64 0, .int .i64 0, .int .i64 0, .slice none 0 0]) hS172 (by kernel_rfl) (fun b173 w173 (hS173 : St _ _ [.blk b173 (.cells #[.int .i64 (0 : Int), .int .i64 (0 : Int), .int .i64 (0 : Int), .int .i64 (0 : Int), .slice none 0 0] 25), _, _, .fz g, _, _] _) => ?_)
       clear hS172
       refine hK _ _ ?_; clear hK K
       refine l_e rfl (fun K hK => ?_)
       refine e_storeA hS173 rfl rfl (by kernel_rfl) (by repeat' (first | exact trivial | refine ⟨by first | rfl | assumption | exact one_if (by assumption), ?_⟩)) (i := 0) rfl rfl (fun w174 (hS174 : St _ _ [.blk b173 (.cells #[.int .i64 l171.k, .int .i64 l171.f, .int .i64 l171.t, .int .i64 l171.x, .slice an171 l171.nd.length cn171] 25), _, _, .fz g, _, _] _) => ?_)
       clear hS173
       refine hK _ _ ?_; clear hK K
       refine l_q rfl rfl (q_assignI rfl) ?_
       refine l_nil ?_
       refine hK169 _ _ ?_
       refine wp_seq_k (fun K175 hK175 => ?_)
       refine wp_region_lit ?_
       refine l_q rfl rfl (q_moveI rfl) ?_
       refine l_q rfl rfl (q_neq rfl rfl) ?_
       refine l_q rfl rfl (q_moveB rfl) ?_
       refine g_splitL (t := 121) rfl (fun hg176 => ?_) (fun hg176 => ?_)
       ·
        have hg176b := hg176
        try simp only [decide_eq_true_eq, decide_eq_false_iff_not, Bool.not_eq_true', Bool.not_eq_false', Bool.and_eq_true, Bool.or_eq_true, Int.not_lt, Int.not_le, ne_eq, Decidable.not_not] at hg176
        exfalso; first | omega | exact hg176 trivial
       ·
        have hg176b := hg176
        try simp only [decide_eq_true_eq, decide_eq_false_iff_not, Bool.not_eq_true', Bool.not_eq_false', Bool.and_eq_true, Bool.or_eq_true, Int.not_lt, Int.not_le, ne_eq, Decidable.not_not] at hg176
        refine l_on rfl rfl hg176b ?_
        refine l_q rfl rfl (q_moveP rfl) ?_
        refine l_on rfl rfl hg176b ?_
        refine l_e rfl (fun K hK => ?_)
        have hlm177 : (List.map Prod.fst (mdel L2 x170)).length = (mdel L2 x170).length := List.length_map _
        refine e_call (by kernel_rfl) (nums_ok k mb s (t + ls (absN L2) x170) 0 (mdel L2 x170) hn171 (by omega) (by omega) _ (hS174.blk (i := 1) rfl) (hS174.map (i := 2) rfl) ((EOk.del hE2 x170).mono (hS174.fz (i := 3) rfl))) rfl (after_N hS174 (fun v177 G177 w177 hv177 hS177 => ?_))
        clear hS174
        obtain ⟨ad177, cp177, rfl, rfl⟩ := hv177
        have hS178 : St _ _ [.ow 3 1 ad177 ((List.map Prod.fst (mdel L2 x170)).length) cp177 (iv (List.map Prod.fst (mdel L2 x170))), _, _, _, .fz g, _, _] _ := hS177; clear hS177
        refine hK _ _ ?_; clear hK K
        refine l_on rfl rfl hg176b ?_
        refine l_q rfl rfl (q_lenSl (e := 3) rfl (by kernel_rfl)) ?_
        refine l_on rfl rfl hg176b ?_
        refine l_q rfl rfl (q_moveI rfl) ?_
        refine l_on rfl rfl hg176b ?_
        refine l_q rfl rfl (q_neq rfl rfl) ?_
        refine l_q rfl rfl (q_pickF rfl hg176b rfl) ?_
        refine l_nil ?_
        refine hK175 _ _ ?_
        refine c_cond rfl (fun hc179 => ?_) (fun hc179 => ?_)
        ·
         have hc179b := hc179
         try simp only [decide_eq_true_eq, decide_eq_false_iff_not, Bool.not_eq_true', Bool.not_eq_false', Bool.and_eq_true, Bool.or_eq_true, Int.not_lt, Int.not_le, ne_eq, Decidable.not_not] at hc179
         exfalso; first | omega | exact hc179 trivial
        ·
         have hc179b := hc179
         try simp only [decide_eq_true_eq, decide_eq_false_iff_not, Bool.not_eq_true', Bool.not_eq_false', Bool.and_eq_true, Bool.or_eq_true, Int.not_lt, Int.not_le, ne_eq, Decidable.not_not] at hc179
         refine wp_skip ?_
         refine hK168 _ _ ?_
         refine wp_region_lit ?_
         refine l_q rfl rfl (q_moveI rfl) ?_
         refine l_q rfl rfl (q_subx rfl rfl (by first | decide | omega) (by first | decide | omega)) ?_
         refine l_q rfl rfl (q_assignI rfl) ?_
         refine l_nil ?_
         have hS180 := hS178.fr6; clear hS178
         have hS181 := hS180.fr5; clear hS180
         have hS182 := hS181.fr5; clear hS181
         have hS183 := hS182.fr5; clear hS182
         have hS184 : St _ _ [_, _, .fz g, _] _ := hS183.only 4; clear hS183
         refine hK164 _ _ (came (⟨k1, (mdel L2 x170), (t + ls (absN L2) x170)⟩) (by repeat' (first | exact Agree.refl _ _ | refine Agree.up ?_ rfl | refine Agree.hav2 ?_ rfl | refine Agree.ups2 ?_ rfl)) (by refine ⟨congrArg (Value.int .i64) (by omega), trivial⟩) ?_)
         exact ⟨⟨hS184, (by show k1 ≤ L.length; omega), hA3, (EOk.del hE2 x170), hn171, (by show (t + ls (absN L2) x170) + k1 = L.length; omega)⟩, by (show k1 < k1 + 1); omega⟩
      ·
       have hc167b := hc167
       try simp only [decide_eq_true_eq, decide_eq_false_iff_not, Bool.not_eq_true', Bool.not_eq_false', Bool.and_eq_true, Bool.or_eq_true, Int.not_lt, Int.not_le, ne_eq, Decidable.not_not] at hc167
       refine wp_exit ?_
       refine hK162 _ _ ?_
       refine wp_seq_k (fun K185 hK185 => ?_)
       have hlq : (List.map Prod.fst L).length = L.length := List.length_map _
       refine wp_region_lit ?_
       refine l_e rfl (fun K hK => ?_)
       refine e_call (by kernel_rfl) (alive12_ok _) rfl (after_R hS164 (fun v186 w186 hv186 hS186 => ?_))
       clear hS164
       obtain rfl := hv186
       refine hK _ _ ?_; clear hK K
       refine l_q rfl rfl (q_moveB rfl) ?_
       refine l_on rfl rfl rfl ?_
       refine l_q rfl rfl (q_moveI rfl) ?_
       refine l_on rfl rfl rfl ?_
       refine l_q rfl rfl (q_moveS rfl) ?_
       refine l_on rfl rfl rfl ?_
       refine l_q rfl rfl (q_lenSl (e := 3) rfl (by kernel_rfl)) ?_
       refine l_on rfl rfl rfl ?_
       refine l_q rfl rfl (q_eql rfl rfl) ?_
       refine l_q rfl rfl (q_pickT rfl rfl rfl) ?_
       refine l_q rfl rfl (q_assignB rfl) ?_
       refine l_nil ?_
       refine hK185 _ _ ?_
       refine wp_ret ?_
       refine c_ret1 rfl rfl ?_
       first | exact ⟨_, rfl, rfl, hS186.drop⟩ | exact ⟨_, rfl, congrArg Value.bool (decide_eq_true (by omega)), hS186.drop⟩

end Go.Proofs.Ytlplhlncdfhhoaa
