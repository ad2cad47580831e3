/- NetWhole. -/
import Derived.Test.YtlplhlncdfhhoaaEo
import Derived.Test.YtlplhlncdfhhoaaH
set_option linter.unusedVariables false
set_option linter.unusedSimpArgs false
namespace Go.Proofs.Ytlplhlncdfhhoaa
open Go.RowKit
def lc12 (a : A12) : List Value := [.int .i64 a.l.k, .int .i64 a.l.f, .int .i64 a.l.t, .int .i64 a.l.x, .slice a.ad a.l.nd.length a.cap]
theorem lc12_ones : ∀ q : A12, AllOne (lc12 q) := fun q => ⟨rfl, rfl, rfl, rfl, rfl, trivial⟩
/-- Every letter under way was sent. -/
def Cov (A : List (Int × Lr)) (sn : List A12) : Prop := ∀ q ∈ A, ∃ a ∈ sn, a.l = q.2
def SnOk (g : Gh) (sn : List A12) : Prop := ∀ a ∈ sn, SlG g a.ad (iv a.l.nd) ∧ a.l.nd.length ≤ 80
theorem SnOk.add {g : Gh} {sn : List A12} (h : SnOk g sn) {x : A12} (hx : SlG g x.ad (iv x.l.nd)) (hl : x.l.nd.length ≤ 80) : SnOk g (sn ++ [x]) := fun a ha => by
  rcases List.mem_append.1 ha with ha | ha
  · exact h a ha
  · rw [List.mem_singleton] at ha; subst ha; exact ⟨hx, hl⟩
theorem Cov.add {A A' : List (Int × Lr)} {sn : List A12} {x : A12} {s : Int} (h : Cov A sn) (e : A' = A ++ [(s, x.l)]) : Cov A' (sn ++ [x]) := fun q hq => by
  rw [e] at hq
  rcases List.mem_append.1 hq with hq | hq
  · obtain ⟨a, ha, e⟩ := h q hq; exact ⟨a, List.mem_append_left _ ha, e⟩
  · rw [List.mem_singleton] at hq; subst hq; exact ⟨x, List.mem_append_right _ (.head _), rfl⟩
theorem Cov.tw {A A' : List (Int × Lr)} {sn : List A12} {s n : Int} {l : Lr} (h : Cov A sn) (hm : (n, l) ∈ A) (e : A' = A ++ [(s, l)]) : Cov A' sn := fun q hq => by
  rw [e] at hq
  rcases List.mem_append.1 hq with hq | hq
  · exact h q hq
  · rw [List.mem_singleton] at hq; subst hq; exact h (n, l) hm
theorem Cov.same {A A' : List (Int × Lr)} {sn : List A12} (h : Cov A sn) (e : A' = A) : Cov A' sn := by rw [e]; exact h
theorem Cov.del {L : List (Int × Ent)} {sn : List A12} (h : Cov (absN L) sn) (n : Int) : Cov (absN (mdel L n)) sn := fun q hq => h q (by rw [absN_del] at hq; exact (List.mem_filter.1 hq).1)
theorem tk_or {A : List (Int × Lr)} {s : Nat} (h : NumOk A s) (n : Int) {l : Lr} {b : Int} (e : tkv A n = (l, b)) : ((n, l) ∈ A ∧ b = 0) ∨ (b = 121 ∧ l = lz ∧ ∀ q ∈ A, q.1 ≠ n) := by
  by_cases hm : ∃ x, (n, x) ∈ A
  · obtain ⟨x, hx⟩ := hm
    obtain ⟨h1, h2⟩ := tk_val e (h.tkv hx)
    subst h1; exact .inl ⟨hx, h2⟩
  · have hq : ∀ q ∈ A, q.1 ≠ n := fun q hq e => hm ⟨q.2, by rw [← e]; exact hq⟩
    obtain ⟨h1, h2⟩ := tk_val e (tkv_no hq)
    exact .inr ⟨h2, h1, hq⟩
theorem found_all {A : List (Int × Lr)} {s : Nat} (h : NumOk A s) {n : Int} {l : Lr} {b : Int} (e : tkv A n = (l, b)) {sn : List A12} (hc : Cov A sn) : (decide (¬b = 0) || sn.any fun a => sameL l a.l) = true := by
  rcases tk_or h n e with ⟨h1, h2⟩ | ⟨h1, _⟩
  · obtain ⟨a, ha, e2⟩ := hc _ h1
    rw [Bool.or_eq_true, List.any_eq_true]
    exact .inr ⟨a, ha, by rw [e2]; exact sameL_rfl _⟩
  · rw [Bool.or_eq_true]; exact .inl (decide_eq_true (by omega))
theorem any_next {sn : List A12} {j : Nat} {x : A12} {l : Lr} {c : Bool} (hx : sn[j]? = some x) : (c || (sn.take (j + 1)).any fun a => sameL l a.l) = ((c || (sn.take j).any fun a => sameL l a.l) || sameL l x.l) := by
  rw [List.take_add_one, hx, List.any_append, Bool.or_assoc]; congr 2; simp
theorem tk_len {A : List (Int × Lr)} {s : Nat} (h : NumOk A s) (n : Int) {l : Lr} {b : Int} (e : tkv A n = (l, b)) (hA : ∀ q ∈ A, q.2.nd.length ≤ 80) : l.nd.length ≤ 80 := by
  rcases tk_or h n e with ⟨h1, _⟩ | ⟨_, h1, _⟩
  · exact hA _ h1
  · rw [h1]; decide
theorem cov_len {A : List (Int × Lr)} {g : Gh} {sn : List A12} (hc : Cov A sn) (hs : SnOk g sn) : ∀ q ∈ A, q.2.nd.length ≤ 80 := fun q hq => by
  obtain ⟨a, ha, e⟩ := hc q hq; rw [← e]; exact (hs a ha).2
attribute [local irreducible] Oper.wp Sem.run Code.wp wpList wpAnyO callFunc execOp Calls
attribute [local irreducible] toU short rencs renc rowE encRow rightB zig unzig decRw rightL risB lastN bitsOf nodesTo encL encLE sameL snd numsW sameI toOf badT tkv ls twN

set_option maxRecDepth 100000 in
theorem netWhole_ok (sc : List A12) (sa : Option Addr) (cp : Nat) (w : World) (hsG : SlG (hw w) sa (List.flatMap ac12 sc)) (hsB : ∀ a ∈ sc, SlG (hw w) a.ad (iv a.l.nd)) : Calls Try.prog 5 #[.slice sa sc.length cp] w (PostR w fun v => v = .bool true) := by
 have hS := St.start w
 refine c_enter Try.func5 rfl rfl rfl ?_
 refine wp_seq_k (fun K1 hK1 => ?_)
 refine wp_region_lit ?_
 refine l_q rfl rfl (q_assignB rfl) ?_
 refine l_nil ?_
 refine hK1 _ _ ?_
 refine wp_seq_k (fun K2 hK2 => ?_)
 refine wp_region_lit ?_
 refine l_e rfl (fun K hK => ?_)
 refine e_call (by kernel_rfl) (nnew_ok _) rfl (after_N hS (fun v3 G3 w3 hv3 hS3 => ?_))
 clear hS
 obtain ⟨k, mb, rfl, rfl⟩ := hv3
 have hS4 : St _ _ [.blk k (.cells #[.map (some mb), .int .i64 ((0 : Nat) : Int), .int .i64 ((0 : Nat) : Int), .int .i64 ((0 : Nat) : Int)] 60), .mp (.int .i64) mb (List.map nc [])] _ := hS3; clear hS3
 have hS5 := hS4.fz0; clear hS4
 have hS6 := hS5.fr2; clear hS5
 have hS7 := hS6.fr2; clear hS6
 obtain ⟨L0, hL0⟩ : ∃ L : List (Int × Ent), L = [] := ⟨[], rfl⟩
 rw [← hL0] at hS7
 have hE0 : EOk (fun _ => none) L0 := by rw [hL0]; exact EOk.nil
 have hn0 : NumOk (absN L0) 0 := by rw [hL0]; exact NumOk.nil 0
 have hl0 : L0.length = 0 := by rw [hL0]; rfl
 refine hK _ _ ?_; clear hK K
 refine l_q rfl rfl (q_assignP rfl) ?_
 refine l_nil ?_
 refine hK2 _ _ ?_
 refine wp_seq_k (fun K8 hK8 => ?_)
 refine wp_seq_k (fun K9 hK9 => ?_)
 refine wp_region_lit ?_
 refine l_q rfl rfl (q_moveP rfl) ?_
 refine l_q rfl rfl (q_peq rfl (by kernel_rfl)) ?_
 refine l_nil ?_
 refine hK9 _ _ ?_
 refine c_condF rfl rfl ?_
 refine wp_skip ?_
 refine hK8 _ _ ?_
 refine wp_seq_k (fun K11 hK11 => ?_)
 refine wp_region_lit ?_
 refine l_q rfl rfl (q_assignS rfl) ?_
 refine l_nil ?_
 refine hK11 _ _ ?_
 refine wp_seq_k (fun K12 hK12 => ?_)
 refine wp_region_lit ?_
 refine l_q rfl rfl (q_assignI rfl) ?_
 refine l_nil ?_
 refine hK12 _ _ ?_
 refine wp_seq_k (fun K13 hK13 => ?_)
 refine wp_seq_k (fun K14 hK14 => ?_)
 refine wp_region_lit ?_
 refine l_q rfl rfl (q_assignI rfl) ?_
 refine l_nil ?_
 refine hK14 _ _ ?_
 refine wp_block ?_
 have hS15 := hS7.ow_nil 25 5; clear hS7
 have hS16 := hS15.fr3; clear hS15
 have hS17 := hS16.fr3; clear hS16
 have hS18 := hS17.fr3; clear hS17
 refine c_loop (τ := Nat × Nat × Nat × Nat × (List (Int × Ent)) × Gh × (List A12) × (Option Addr) × Nat) [(2, 2), (4, 21), (25, 148)] (fun x => (fun (i : Nat) (s : Nat) (t : Nat) (o : Nat) (L : List (Int × Ent)) (g : Gh) (sn : List A12) (sad : Option Addr) (scp : Nat) => [(4, .slice sad sn.length scp), (5, .int .i64 (s : Int)), (6, .int .i64 (i : Int))]) x.1 x.2.1 x.2.2.1 x.2.2.2.1 x.2.2.2.2.1 x.2.2.2.2.2.1 x.2.2.2.2.2.2.1 x.2.2.2.2.2.2.2.1 x.2.2.2.2.2.2.2.2) (fun x w' => (fun (i : Nat) (s : Nat) (t : Nat) (o : Nat) (L : List (Int × Ent)) (g : Gh) (sn : List A12) (sad : Option Addr) (scp : Nat) => St w (fun _ => False) [.blk k (.cells #[.map (some mb), .int .i64 (s : Int), .int .i64 (t : Int), .int .i64 (o : Int)] 60), .mp (.int .i64) mb (List.map nc L), .fz g, .ow 25 5 sad sn.length scp (List.flatMap lc12 sn)] w' ∧ i ≤ 80 ∧ s ≤ i ∧ s = t + o + L.length ∧ EOk g L ∧ NumOk (absN L) s ∧ Cov (absN L) sn ∧ SnOk (hw w) sn ∧ sn.length ≤ i) x.1 x.2.1 x.2.2.1 x.2.2.2.1 x.2.2.2.2.1 x.2.2.2.2.2.1 x.2.2.2.2.2.2.1 x.2.2.2.2.2.2.2.1 x.2.2.2.2.2.2.2.2) (fun x => (fun (i : Nat) (s : Nat) (t : Nat) (o : Nat) (L : List (Int × Ent)) (g : Gh) (sn : List A12) (sad : Option Addr) (scp : Nat) => 80 - i) x.1 x.2.1 x.2.2.1 x.2.2.2.1 x.2.2.2.2.1 x.2.2.2.2.2.1 x.2.2.2.2.2.2.1 x.2.2.2.2.2.2.2.1 x.2.2.2.2.2.2.2.2) (⟨0, 0, 0, 0, L0, (fun _ => none), [], none, 0⟩) ?_ (by repeat' (first | exact trivial | refine ⟨by first | rfl | exact int_succ _ | assumption, ?_⟩)) (fun x19 j19 w19 hJ19 K19 hK19 => ?_)
 ·
  exact ⟨hS18, (by show 0 ≤ 80; omega), (by show 0 ≤ 0; omega), (by show 0 = 0 + 0 + L0.length; omega), hE0, hn0, (fun q h => by rw [hL0] at h; cases h), (fun a h => by cases h), (by simp)⟩
 ·
  obtain ⟨i, s, t, o, L, g, sn, sad, scp⟩ := x19
  obtain ⟨hS19, hi, hsi, hsum, hE, hn, hc, hsn, hsl⟩ := hJ19
  try dsimp only at hS19 hi hsi hsum hE hn hc hsn hsl ⊢
  refine wp_seq_k (fun K20 hK20 => ?_)
  refine wp_seq_k (fun K21 hK21 => ?_)
  refine wp_region_lit ?_
  refine l_q rfl rfl (q_moveI rfl) ?_
  refine l_q rfl rfl (q_moveS rfl) ?_
  refine l_q rfl rfl (q_lenSl (e := 43) rfl (by kernel_rfl)) ?_
  refine l_q rfl rfl (q_lss rfl rfl) ?_
  refine l_q rfl rfl (q_moveB rfl) ?_
  refine g_splitL (t := 29) rfl (fun hg22 => ?_) (fun hg22 => ?_)
  ·
   have hg22b := hg22
   try simp only [decide_eq_true_eq, decide_eq_false_iff_not, Bool.not_eq_true', Bool.not_eq_false', Bool.and_eq_true, Bool.or_eq_true, Int.not_lt, Int.not_le, ne_eq, Decidable.not_not] at hg22
   refine l_on rfl rfl hg22b ?_
   refine l_q rfl rfl (q_moveI rfl) ?_
   refine l_on rfl rfl hg22b ?_
   refine l_q rfl rfl (q_lss rfl rfl) ?_
   refine l_q rfl rfl (q_pickT rfl hg22b rfl) ?_
   refine l_nil ?_
   refine hK21 _ _ ?_
   refine c_cond rfl (fun hc23 => ?_) (fun hc23 => ?_)
   ·
    have hc23b := hc23
    try simp only [decide_eq_true_eq, decide_eq_false_iff_not, Bool.not_eq_true', Bool.not_eq_false', Bool.and_eq_true, Bool.or_eq_true, Int.not_lt, Int.not_le, ne_eq, Decidable.not_not] at hc23
    refine wp_skip ?_
    refine hK20 _ _ ?_
    refine wp_seq_k (fun K24 hK24 => ?_)
    refine wp_block ?_
    refine wp_seq_k (fun K25 hK25 => ?_)
    refine wp_region_lit ?_
    refine l_q rfl rfl (q_moveS rfl) ?_
    refine l_q rfl rfl (q_moveI rfl) ?_
    refine l_q rfl rfl (q_ixG (e := 43) (m := 7) (j := i) rfl rfl (by kernel_rfl) (by kernel_rfl) (by first | rfl | omega) (by omega) hsG (by rw [rows_len (c := ac12) (m := 7) (fun _ => rfl)]; first | omega | (simp only [List.length_append, List.length_map, List.length_cons, List.length_nil, List.length_take, List.length_drop, List.length_set] <;> omega))) ?_
    obtain ⟨x26, hx26⟩ : ∃ x, (sc)[i]? = some x := ⟨_, List.getElem?_eq_getElem (by first | omega | (simp only [List.length_append, List.length_map, List.length_cons, List.length_nil, List.length_take, List.length_drop, List.length_set] <;> omega) | (simp <;> omega))⟩
    refine l_q rfl rfl (q_loadGA (m := 7) rfl (by kernel_rfl) (by kernel_rfl) (hsG.mono hS19.base) (row_take hx26 (c := ac12) (m := 7) (fun _ => rfl)) rfl (by decide)) ?_
    refine l_e rfl (fun K hK => ?_)
    refine e_alloc (zv := .agg #[.int .i64 0, .int .i64 0, .int .i64 0, .int .i64 0, .int .i64 0, .int .i64 0, .slice none 0 0]) hS19 (by kernel_rfl) (fun b27 w27 (hS27 : St _ _ [.blk b27 (.cells #[.int .i64 (0 : Int), .int .i64 (0 : Int), .int .i64 (0 : Int), .int .i64 (0 : Int), .int .i64 (0 : Int), .int .i64 (0 : Int), .slice none 0 0] 43), .blk k (.cells #[.map (some mb), .int .i64 (s : Int), .int .i64 (t : Int), .int .i64 (o : Int)] 60), .mp (.int .i64) mb (List.map nc L), .fz g, .ow 25 5 sad sn.length scp (List.flatMap lc12 sn)] _) => ?_)
    clear hS19
    refine hK _ _ ?_; clear hK K
    refine l_e rfl (fun K hK => ?_)
    refine e_storeA hS27 rfl rfl (by kernel_rfl) (by repeat' (first | exact trivial | refine ⟨by first | rfl | assumption | exact one_if (by assumption), ?_⟩)) (i := 0) rfl rfl (fun w28 (hS28 : St _ _ [.blk b27 (.cells #[.int .i64 x26.k, .int .i64 x26.n, .int .i64 x26.l.k, .int .i64 x26.l.f, .int .i64 x26.l.t, .int .i64 x26.l.x, .slice x26.ad x26.l.nd.length x26.cap] 43), _, _, .fz g, _] _) => ?_)
    clear hS27
    refine hK _ _ ?_; clear hK K
    refine l_nil ?_
    refine hK25 _ _ ?_
    refine wp_seq_k (fun K29 hK29 => ?_)
    refine wp_seq_k (fun K30 hK30 => ?_)
    refine wp_region_lit ?_
    refine l_q rfl rfl (q_fieldAddr (ft := 25) (o := 2) rfl (by kernel_rfl)) ?_
    refine l_q rfl rfl (q_fieldAddr (ft := 23) (o := 4) rfl (by kernel_rfl)) ?_
    refine l_q rfl rfl (q_load1 rfl (by kernel_rfl) (hS28.cell (i := 0) rfl rfl)) ?_
    refine l_q rfl rfl (q_lenSl (e := 3) rfl (by kernel_rfl)) ?_
    refine l_q rfl rfl (q_gtr rfl rfl) ?_
    refine l_nil ?_
    refine hK30 _ _ ?_
    refine c_cond rfl (fun hc31 => ?_) (fun hc31 => ?_)
    ·
     have hc31b := hc31
     try simp only [decide_eq_true_eq, decide_eq_false_iff_not, Bool.not_eq_true', Bool.not_eq_false', Bool.and_eq_true, Bool.or_eq_true, Int.not_lt, Int.not_le, ne_eq, Decidable.not_not] at hc31
     refine wp_exit ?_
     refine hK24 _ _ ?_
     refine wp_region_lit ?_
     refine l_q rfl rfl (q_moveI rfl) ?_
     refine l_q rfl rfl (q_addx rfl rfl (by first | decide | omega) (by first | decide | omega)) ?_
     refine l_q rfl rfl (q_assignI rfl) ?_
     refine l_nil ?_
     have hS32 := hS28.fr4; clear hS28
     have hS33 := hS32.fr4; clear hS32
     have hS34 := hS33.fr4; clear hS33
     have hS35 := hS34.fr4; clear hS34
     have hS36 : St _ _ [_, _, .fz g, _] _ := hS35.only 4; clear hS35
     refine hK19 _ _ (came (⟨(i + 1), s, t, o, L, g, sn, sad, scp⟩) (by repeat' (first | exact Agree.refl _ _ | refine Agree.up ?_ rfl | refine Agree.hav2 ?_ rfl | refine Agree.ups2 ?_ rfl)) (by repeat' (first | exact trivial | refine ⟨by first | rfl | exact int_succ _ | assumption, ?_⟩)) ?_)
     exact ⟨⟨hS36, (by show i + 1 ≤ 80; omega), (by show s ≤ i + 1; omega), (by show s = t + o + List.length L; omega), hE, hn, hc, hsn, (by show List.length sn ≤ i + 1; first | omega | (simp only [List.length_append, List.length_cons, List.length_nil]; omega))⟩, by (show 80 - (i + 1) < 80 - i); omega⟩
    ·
     have hc31b := hc31
     try simp only [decide_eq_true_eq, decide_eq_false_iff_not, Bool.not_eq_true', Bool.not_eq_false', Bool.and_eq_true, Bool.or_eq_true, Int.not_lt, Int.not_le, ne_eq, Decidable.not_not] at hc31
     refine wp_skip ?_
     refine hK29 _ _ ?_
     refine wp_seq_k (fun K37 hK37 => ?_)
     refine wp_seq_k (fun K38 hK38 => ?_)
     refine wp_region_lit ?_
     refine l_q rfl rfl (q_fieldAddr (ft := 3) (o := 0) rfl (by kernel_rfl)) ?_
     refine l_q rfl rfl (q_load1 rfl (by kernel_rfl) (hS28.cell (i := 0) rfl rfl)) ?_
     refine l_nil ?_
     refine hK38 _ _ ?_
     refine wp_block ?_
     refine wp_seq_k (fun K39 hK39 => ?_)
     refine wp_region_lit ?_
     refine l_q rfl rfl (q_eql rfl rfl) ?_
     refine l_q rfl rfl (q_assignB rfl) ?_
     refine l_nil ?_
     refine hK39 _ _ ?_
     refine c_cond rfl (fun hc40 => ?_) (fun hc40 => ?_)
     ·
      have hc40b := hc40
      try simp only [decide_eq_true_eq, decide_eq_false_iff_not, Bool.not_eq_true', Bool.not_eq_false', Bool.and_eq_true, Bool.or_eq_true, Int.not_lt, Int.not_le, ne_eq, Decidable.not_not] at hc40
      refine wp_seq_k (fun K41 hK41 => ?_)
      refine wp_region_lit ?_
      refine l_q rfl rfl (q_moveP rfl) ?_
      refine l_q rfl rfl (q_fieldAddr (ft := 25) (o := 2) rfl (by kernel_rfl)) ?_
      refine l_q rfl rfl (q_loadA (m := 5) rfl (by kernel_rfl) (by kernel_rfl) (hS28.blk (i := 0) rfl) rfl rfl) ?_
      refine l_e rfl (fun K hK => ?_)
      have hS43 := hS28.fr3; clear hS28
      have hS44 := hS43.fr3; clear hS43
      have hS45 := hS44.fr3; clear hS44
      refine e_call (by kernel_rfl) (send_any k mb s t o L g hE hn (by omega) x26.l x26.l.nd.length (by first | rfl | omega) (by omega) x26.ad x26.cap _ _ (St.rogB (Γ1 := [_, _, _]) hS45) (hsB x26 (List.mem_of_getElem? hx26)) (St.begin (Γ := [_, _, _]) hS45)) rfl (after_M (Γ1 := [_, _, _]) hS45 (fun v42 G42 w42 hv42 hS42 => ?_))
      clear hS45
      obtain ⟨a42, b42, L42, s42, g42, rfl, rfl, hle42, hE42, hs42⟩ := hv42
      have hS46 : St _ _ [.blk k (.cells #[.map (some mb), .int .i64 (s42 : Int), .int .i64 (t : Int), .int .i64 (o : Int)] 60), .mp (.int .i64) mb (List.map nc L42), .fz g42, _, _] _ := hS42; clear hS42
      have hn42 := hn.snd' hs42
      have hgr42 := snd_grow hs42
      have hgl42 := hgr42.2.1; have hgs42 := hgr42.1; rw [absN_len, absN_len] at hgl42
      refine hK _ _ ?_; clear hK K
      refine l_q rfl rfl (q_move rfl) ?_
      refine l_q rfl rfl (q_extract rfl rfl) ?_
      refine l_q rfl rfl (q_extract rfl rfl) ?_
      refine l_q rfl rfl (q_assignI rfl) ?_
      refine l_q rfl rfl (q_assignI rfl) ?_
      refine l_nil ?_
      refine hK41 _ _ ?_
      refine wp_seq_k (fun K47 hK47 => ?_)
      refine wp_region_lit ?_
      refine l_q rfl rfl (q_moveI rfl) ?_
      refine l_q rfl rfl (q_eql rfl rfl) ?_
      refine l_nil ?_
      refine hK47 _ _ ?_
      refine c_cond rfl (fun hc48 => ?_) (fun hc48 => ?_)
      ·
       have hc48b := hc48
       try simp only [decide_eq_true_eq, decide_eq_false_iff_not, Bool.not_eq_true', Bool.not_eq_false', Bool.and_eq_true, Bool.or_eq_true, Int.not_lt, Int.not_le, ne_eq, Decidable.not_not] at hc48
       obtain ⟨hy1, hy2, hy3, hyR, _⟩ := snd_yes hs42 hc48; subst hy2
       refine wp_seq_k (fun K49 hK49 => ?_)
       refine wp_seq_k (fun K50 hK50 => ?_)
       refine wp_region_lit ?_
       refine l_q rfl rfl (q_moveI rfl) ?_
       refine l_q rfl rfl (q_moveI rfl) ?_
       refine l_q rfl rfl (q_neq rfl rfl) ?_
       refine l_nil ?_
       refine hK50 _ _ ?_
       refine c_cond rfl (fun hc51 => ?_) (fun hc51 => ?_)
       ·
        have hc51b := hc51
        try simp only [decide_eq_true_eq, decide_eq_false_iff_not, Bool.not_eq_true', Bool.not_eq_false', Bool.and_eq_true, Bool.or_eq_true, Int.not_lt, Int.not_le, ne_eq, Decidable.not_not] at hc51
        exfalso; first | omega | exact hc51 trivial
       ·
        have hc51b := hc51
        try simp only [decide_eq_true_eq, decide_eq_false_iff_not, Bool.not_eq_true', Bool.not_eq_false', Bool.and_eq_true, Bool.or_eq_true, Int.not_lt, Int.not_le, ne_eq, Decidable.not_not] at hc51
        refine wp_skip ?_
        refine hK49 _ _ ?_
        refine wp_seq_k (fun K52 hK52 => ?_)
        refine wp_region_lit ?_
        refine l_q rfl rfl (q_moveS rfl) ?_
        refine l_q rfl rfl (q_fieldAddr (ft := 25) (o := 2) rfl (by kernel_rfl)) ?_
        refine l_q rfl rfl (q_loadA (m := 5) rfl (by kernel_rfl) (by kernel_rfl) (hS46.blk (i := 3) rfl) rfl rfl) ?_
        refine l_e rfl (fun K hK => ?_)
        refine e_buildSliceA (e := 25) (m := 5) (zv := .agg #[.int .i64 0, .int .i64 0, .int .i64 0, .int .i64 0, .slice none 0 0]) hS46 (by kernel_rfl) (by kernel_rfl) (by kernel_rfl) rfl rfl rfl rfl (fun b53 w53 (hS53 : St _ _ [.blk b53 (.cells #[.int .i64 x26.l.k, .int .i64 x26.l.f, .int .i64 x26.l.t, .int .i64 x26.l.x, .slice x26.ad x26.l.nd.length x26.cap] 25), .blk k (.cells #[.map (some mb), .int .i64 (((s + 1) : Nat) : Int), .int .i64 (t : Int), .int .i64 (o : Int)] 60), _, .fz g42, _, _] _) => ?_)
        clear hS46
        have hS53o : St _ _ [.ow 25 5 (some ⟨b53, 0, none⟩) 1 1 (List.flatMap lc12 [x26]), _, _, .fz g42, _, _] _ := hS53.blkOw' (i := 0) (m := 1) (size := 5) (xs := List.flatMap lc12 [x26]) rfl rfl rfl (by decide); clear hS53
        refine hK _ _ ?_; clear hK K
        refine l_e rfl (fun K hK => ?_)
        refine e_app (e := 25) (size := 5) (bytes := 56) (i := 5) (m' := (sn ++ [x26]).length) (by kernel_rfl) hS53o rfl rfl rfl (SlG.src (e := 25) (by kernel_rfl) (hS53o.owG (i := 0) rfl) ((rows_len (c := lc12) (m := 5) (fun _ => rfl) _).trans (by first | rfl | (simp only [List.length_append, List.length_map, List.length_cons, List.length_nil, List.length_take, List.length_drop, List.length_set]; done) | (simp only [List.length_append, List.length_map, List.length_cons, List.length_nil, List.length_take, List.length_drop, List.length_set]; omega) | omega)) (by decide) (rows_one lc12_ones)) (by first | omega | (simp only [List.length_append, List.length_map, List.length_cons, List.length_nil, List.length_take, List.length_drop, List.length_set] <;> omega) | (simp; done)) rows_app (by first | omega | (simp only [maxLen, List.length_append, List.length_map, List.length_cons, List.length_nil, List.length_take, List.length_drop, List.length_set] <;> omega) | (simp only [maxLen]; omega)) (by first | omega | (simp only [List.length_append, List.length_map, List.length_cons, List.length_nil, List.length_take, List.length_drop, List.length_set] <;> omega)) (fun ad54 cp54 w54 (hS54 : St _ _ [_, _, _, .fz g42, _, .ow 25 5 ad54 ((sn ++ [x26]).length) cp54 (List.flatMap lc12 (sn ++ [x26]))] _) => ?_)
        clear hS53o
        refine hK _ _ ?_; clear hK K
        refine l_q rfl rfl (q_assignS rfl) ?_
        refine l_nil ?_
        refine hK52 _ _ ?_
        refine wp_region_lit ?_
        refine l_q rfl rfl (q_moveI rfl) ?_
        refine l_q rfl rfl (q_addx rfl rfl (by first | decide | omega) (by first | decide | omega)) ?_
        refine l_q rfl rfl (q_assignI rfl) ?_
        refine l_nil ?_
        refine hK37 _ _ ?_
        refine wp_seq_k (fun K55 hK55 => ?_)
        refine wp_region_lit ?_
        refine l_q rfl rfl (q_moveP rfl) ?_
        refine l_e rfl (fun K hK => ?_)
        refine e_call (by kernel_rfl) (told_ok k mb (s + 1) t o _ (hS54.blk (i := 1) rfl)) rfl (after_R hS54 (fun v56 w56 hv56 hS56 => ?_))
        clear hS54
        obtain rfl := hv56
        refine hK _ _ ?_; clear hK K
        refine l_q rfl rfl (q_move rfl) ?_
        refine l_q rfl rfl (q_extract rfl rfl) ?_
        refine l_q rfl rfl (q_extract rfl rfl) ?_
        refine l_q rfl rfl (q_extract rfl rfl) ?_
        refine l_q rfl rfl (q_assignI rfl) ?_
        refine l_q rfl rfl (q_assignI rfl) ?_
        refine l_q rfl rfl (q_assignI rfl) ?_
        refine l_nil ?_
        refine hK55 _ _ ?_
        refine wp_seq_k (fun K57 hK57 => ?_)
        refine wp_region_lit ?_
        refine l_q rfl rfl (q_moveI rfl) ?_
        refine l_q rfl rfl (q_moveI rfl) ?_
        refine l_q rfl rfl (q_neq rfl rfl) ?_
        refine l_q rfl rfl (q_moveB rfl) ?_
        refine g_splitL (t := 138) rfl (fun hg58 => ?_) (fun hg58 => ?_)
        ·
         have hg58b := hg58
         try simp only [decide_eq_true_eq, decide_eq_false_iff_not, Bool.not_eq_true', Bool.not_eq_false', Bool.and_eq_true, Bool.or_eq_true, Int.not_lt, Int.not_le, ne_eq, Decidable.not_not] at hg58
         exfalso; first | omega | exact hg58 trivial
        ·
         have hg58b := hg58
         try simp only [decide_eq_true_eq, decide_eq_false_iff_not, Bool.not_eq_true', Bool.not_eq_false', Bool.and_eq_true, Bool.or_eq_true, Int.not_lt, Int.not_le, ne_eq, Decidable.not_not] at hg58
         refine l_on rfl rfl hg58b ?_
         refine l_q rfl rfl (q_moveI rfl) ?_
         refine l_on rfl rfl hg58b ?_
         refine l_q rfl rfl (q_moveI rfl) ?_
         refine l_on rfl rfl hg58b ?_
         refine l_q rfl rfl (q_moveI rfl) ?_
         refine l_on rfl rfl hg58b ?_
         refine l_q rfl rfl (q_addx rfl rfl (by first | decide | omega) (by first | decide | omega)) ?_
         refine l_on rfl rfl hg58b ?_
         refine l_q rfl rfl (q_moveP rfl) ?_
         refine l_on rfl rfl hg58b ?_
         refine l_e rfl (fun K hK => ?_)
         have hlm59 : (List.map Prod.fst L42).length = L42.length := List.length_map _
         refine e_call (by kernel_rfl) (nums_ok k mb (s + 1) t o L42 hn42 (by omega) (by omega) _ (hS56.blk (i := 1) rfl) (hS56.map (i := 2) rfl) (hE42.mono (hS56.fz (i := 3) rfl))) rfl (after_N hS56 (fun v59 G59 w59 hv59 hS59 => ?_))
         clear hS56
         obtain ⟨ad59, cp59, rfl, rfl⟩ := hv59
         have hS60 : St _ _ [.ow 3 1 ad59 ((List.map Prod.fst L42).length) cp59 (iv (List.map Prod.fst L42)), _, _, _, .fz g42, _, _] _ := hS59; clear hS59
         refine hK _ _ ?_; clear hK K
         refine l_on rfl rfl hg58b ?_
         refine l_q rfl rfl (q_lenSl (e := 3) rfl (by kernel_rfl)) ?_
         refine l_on rfl rfl hg58b ?_
         refine l_q rfl rfl (q_addx rfl rfl (by first | decide | omega) (by first | decide | omega)) ?_
         refine l_on rfl rfl hg58b ?_
         refine l_q rfl rfl (q_neq rfl rfl) ?_
         refine l_q rfl rfl (q_pickF rfl hg58b rfl) ?_
         refine l_nil ?_
         refine hK57 _ _ ?_
         refine c_cond rfl (fun hc61 => ?_) (fun hc61 => ?_)
         ·
          have hc61b := hc61
          try simp only [decide_eq_true_eq, decide_eq_false_iff_not, Bool.not_eq_true', Bool.not_eq_false', Bool.and_eq_true, Bool.or_eq_true, Int.not_lt, Int.not_le, ne_eq, Decidable.not_not] at hc61
          exfalso; first | omega | exact hc61 trivial
         ·
          have hc61b := hc61
          try simp only [decide_eq_true_eq, decide_eq_false_iff_not, Bool.not_eq_true', Bool.not_eq_false', Bool.and_eq_true, Bool.or_eq_true, Int.not_lt, Int.not_le, ne_eq, Decidable.not_not] at hc61
          refine wp_skip ?_
          refine hK24 _ _ ?_
          refine wp_region_lit ?_
          refine l_q rfl rfl (q_moveI rfl) ?_
          refine l_q rfl rfl (q_addx rfl rfl (by first | decide | omega) (by first | decide | omega)) ?_
          refine l_q rfl rfl (q_assignI rfl) ?_
          refine l_nil ?_
          have hS62 := hS60.fr6; clear hS60
          have hS63 := hS62.fr5; clear hS62
          have hS64 := hS63.fr5; clear hS63
          have hS65 := hS64.fr5; clear hS64
          have hS66 : St _ _ [_, _, .fz g42, _] _ := hS65.only 4; clear hS65
          refine hK19 _ _ (came (⟨(i + 1), (s + 1), t, o, L42, g42, (sn ++ [x26]), ad54, cp54⟩) (by repeat' (first | exact Agree.refl _ _ | refine Agree.up ?_ rfl | refine Agree.hav2 ?_ rfl | refine Agree.ups2 ?_ rfl)) (by repeat' (first | exact trivial | refine ⟨by first | rfl | exact int_succ _ | assumption, ?_⟩)) ?_)
          exact ⟨⟨hS66, (by show i + 1 ≤ 80; omega), (by show (s + 1) ≤ i + 1; omega), (by show (s + 1) = t + o + List.length L42; omega), hE42, hn42, (hc.add hy3), (hsn.add (hsB _ (List.mem_of_getElem? hx26)) (by omega)), (by show List.length (sn ++ [x26]) ≤ i + 1; first | omega | (simp only [List.length_append, List.length_cons, List.length_nil]; omega))⟩, by (show 80 - (i + 1) < 80 - i); omega⟩
      ·
       have hc48b := hc48
       try simp only [decide_eq_true_eq, decide_eq_false_iff_not, Bool.not_eq_true', Bool.not_eq_false', Bool.and_eq_true, Bool.or_eq_true, Int.not_lt, Int.not_le, ne_eq, Decidable.not_not] at hc48
       obtain ⟨hy3, hy2⟩ := snd_non hs42 hc48; have hy2' := hy2.symm; subst hy2'
       refine wp_skip ?_
       refine hK37 _ _ ?_
       refine wp_seq_k (fun K67 hK67 => ?_)
       refine wp_region_lit ?_
       refine l_q rfl rfl (q_moveP rfl) ?_
       refine l_e rfl (fun K hK => ?_)
       refine e_call (by kernel_rfl) (told_ok k mb s t o _ (hS46.blk (i := 0) rfl)) rfl (after_R hS46 (fun v68 w68 hv68 hS68 => ?_))
       clear hS46
       obtain rfl := hv68
       refine hK _ _ ?_; clear hK K
       refine l_q rfl rfl (q_move rfl) ?_
       refine l_q rfl rfl (q_extract rfl rfl) ?_
       refine l_q rfl rfl (q_extract rfl rfl) ?_
       refine l_q rfl rfl (q_extract rfl rfl) ?_
       refine l_q rfl rfl (q_assignI rfl) ?_
       refine l_q rfl rfl (q_assignI rfl) ?_
       refine l_q rfl rfl (q_assignI rfl) ?_
       refine l_nil ?_
       refine hK67 _ _ ?_
       refine wp_seq_k (fun K69 hK69 => ?_)
       refine wp_region_lit ?_
       refine l_q rfl rfl (q_moveI rfl) ?_
       refine l_q rfl rfl (q_moveI rfl) ?_
       refine l_q rfl rfl (q_neq rfl rfl) ?_
       refine l_q rfl rfl (q_moveB rfl) ?_
       refine g_splitL (t := 138) rfl (fun hg70 => ?_) (fun hg70 => ?_)
       ·
        have hg70b := hg70
        try simp only [decide_eq_true_eq, decide_eq_false_iff_not, Bool.not_eq_true', Bool.not_eq_false', Bool.and_eq_true, Bool.or_eq_true, Int.not_lt, Int.not_le, ne_eq, Decidable.not_not] at hg70
        exfalso; first | omega | exact hg70 trivial
       ·
        have hg70b := hg70
        try simp only [decide_eq_true_eq, decide_eq_false_iff_not, Bool.not_eq_true', Bool.not_eq_false', Bool.and_eq_true, Bool.or_eq_true, Int.not_lt, Int.not_le, ne_eq, Decidable.not_not] at hg70
        refine l_on rfl rfl hg70b ?_
        refine l_q rfl rfl (q_moveI rfl) ?_
        refine l_on rfl rfl hg70b ?_
        refine l_q rfl rfl (q_moveI rfl) ?_
        refine l_on rfl rfl hg70b ?_
        refine l_q rfl rfl (q_moveI rfl) ?_
        refine l_on rfl rfl hg70b ?_
        refine l_q rfl rfl (q_addx rfl rfl (by first | decide | omega) (by first | decide | omega)) ?_
        refine l_on rfl rfl hg70b ?_
        refine l_q rfl rfl (q_moveP rfl) ?_
        refine l_on rfl rfl hg70b ?_
        refine l_e rfl (fun K hK => ?_)
        have hlm71 : (List.map Prod.fst L42).length = L42.length := List.length_map _
        refine e_call (by kernel_rfl) (nums_ok k mb s t o L42 hn42 (by omega) (by omega) _ (hS68.blk (i := 0) rfl) (hS68.map (i := 1) rfl) (hE42.mono (hS68.fz (i := 2) rfl))) rfl (after_N hS68 (fun v71 G71 w71 hv71 hS71 => ?_))
        clear hS68
        obtain ⟨ad71, cp71, rfl, rfl⟩ := hv71
        have hS72 : St _ _ [.ow 3 1 ad71 ((List.map Prod.fst L42).length) cp71 (iv (List.map Prod.fst L42)), _, _, .fz g42, _, _] _ := hS71; clear hS71
        refine hK _ _ ?_; clear hK K
        refine l_on rfl rfl hg70b ?_
        refine l_q rfl rfl (q_lenSl (e := 3) rfl (by kernel_rfl)) ?_
        refine l_on rfl rfl hg70b ?_
        refine l_q rfl rfl (q_addx rfl rfl (by first | decide | omega) (by first | decide | omega)) ?_
        refine l_on rfl rfl hg70b ?_
        refine l_q rfl rfl (q_neq rfl rfl) ?_
        refine l_q rfl rfl (q_pickF rfl hg70b rfl) ?_
        refine l_nil ?_
        refine hK69 _ _ ?_
        refine c_cond rfl (fun hc73 => ?_) (fun hc73 => ?_)
        ·
         have hc73b := hc73
         try simp only [decide_eq_true_eq, decide_eq_false_iff_not, Bool.not_eq_true', Bool.not_eq_false', Bool.and_eq_true, Bool.or_eq_true, Int.not_lt, Int.not_le, ne_eq, Decidable.not_not] at hc73
         exfalso; first | omega | exact hc73 trivial
        ·
         have hc73b := hc73
         try simp only [decide_eq_true_eq, decide_eq_false_iff_not, Bool.not_eq_true', Bool.not_eq_false', Bool.and_eq_true, Bool.or_eq_true, Int.not_lt, Int.not_le, ne_eq, Decidable.not_not] at hc73
         refine wp_skip ?_
         refine hK24 _ _ ?_
         refine wp_region_lit ?_
         refine l_q rfl rfl (q_moveI rfl) ?_
         refine l_q rfl rfl (q_addx rfl rfl (by first | decide | omega) (by first | decide | omega)) ?_
         refine l_q rfl rfl (q_assignI rfl) ?_
         refine l_nil ?_
         have hS74 := hS72.fr5; clear hS72
         have hS75 := hS74.fr4; clear hS74
         have hS76 := hS75.fr4; clear hS75
         have hS77 := hS76.fr4; clear hS76
         have hS78 : St _ _ [_, _, .fz g42, _] _ := hS77.only 4; clear hS77
         refine hK19 _ _ (came (⟨(i + 1), s, t, o, L42, g42, sn, sad, scp⟩) (by repeat' (first | exact Agree.refl _ _ | refine Agree.up ?_ rfl | refine Agree.hav2 ?_ rfl | refine Agree.ups2 ?_ rfl)) (by repeat' (first | exact trivial | refine ⟨by first | rfl | exact int_succ _ | assumption, ?_⟩)) ?_)
         exact ⟨⟨hS78, (by show i + 1 ≤ 80; omega), (by show s ≤ i + 1; omega), (by show s = t + o + List.length L42; omega), hE42, hn42, (hc.same hy3), hsn, (by show List.length sn ≤ i + 1; first | omega | (simp only [List.length_append, List.length_cons, List.length_nil]; omega))⟩, by (show 80 - (i + 1) < 80 - i); omega⟩
     ·
      have hc40b := hc40
      try simp only [decide_eq_true_eq, decide_eq_false_iff_not, Bool.not_eq_true', Bool.not_eq_false', Bool.and_eq_true, Bool.or_eq_true, Int.not_lt, Int.not_le, ne_eq, Decidable.not_not] at hc40
      refine wp_seq_k (fun K79 hK79 => ?_)
      refine wp_region_lit ?_
      refine l_q rfl rfl (q_eql rfl rfl) ?_
      refine l_q rfl rfl (q_assignB rfl) ?_
      refine l_nil ?_
      refine hK79 _ _ ?_
      refine c_cond rfl (fun hc80 => ?_) (fun hc80 => ?_)
      ·
       have hc80b := hc80
       try simp only [decide_eq_true_eq, decide_eq_false_iff_not, Bool.not_eq_true', Bool.not_eq_false', Bool.and_eq_true, Bool.or_eq_true, Int.not_lt, Int.not_le, ne_eq, Decidable.not_not] at hc80
       refine wp_seq_k (fun K81 hK81 => ?_)
       refine wp_region_lit ?_
       refine l_q rfl rfl (q_moveP rfl) ?_
       refine l_q rfl rfl (q_fieldAddr (ft := 3) (o := 1) rfl (by kernel_rfl)) ?_
       refine l_q rfl rfl (q_load1 rfl (by kernel_rfl) (hS28.cell (i := 0) rfl rfl)) ?_
       refine l_e rfl (fun K hK => ?_)
       have hS83 := hS28.fr3; clear hS28
       have hS84 := hS83.fr3; clear hS83
       have hS85 := hS84.fr3; clear hS84
       refine e_call (by kernel_rfl) (take_any k mb s t o L g hE hn (by omega) x26.n _ (St.begin (Γ := [_, _, _]) hS85)) rfl (after_M (Γ1 := [_, _, _]) hS85 (fun v82 G82 w82 hv82 hS82 => ?_))
       clear hS85
       obtain ⟨l82, b82, an82, cn82, rfl, rfl, hs82⟩ := hv82
       have hS86 : St _ _ [.blk k (.cells #[.map (some mb), .int .i64 (s : Int), .int .i64 (((t + ls (absN L) x26.n) : Nat) : Int), .int .i64 (o : Int)] 60), .mp (.int .i64) mb (List.map nc (mdel L x26.n)), .fz g, .ow 3 1 an82 l82.nd.length cn82 (iv l82.nd), _, _] _ := hS82; clear hS82
       have hn82 : NumOk (absN (mdel L x26.n)) s := by rw [absN_del]; exact hn.del _
       have hgl82 := ls_add (absN L) x26.n; rw [← absN_del, absN_len, absN_len] at hgl82
       have hlk := tk_len hn _ hs82 (cov_len hc hsn)
       refine hK _ _ ?_; clear hK K
       refine l_q rfl rfl (q_move rfl) ?_
       refine l_q rfl rfl (q_extract rfl rfl) ?_
       refine l_q rfl rfl (q_extract rfl rfl) ?_
       refine l_e rfl (fun K hK => ?_)
       refine e_alloc (zv := .agg #[.int .i64 0, .int .i64 0, .int .i64 0, .int .i64 0, .slice none 0 0]) hS86 (by kernel_rfl) (fun b87 w87 (hS87 : St _ _ [.blk b87 (.cells #[.int .i64 (0 : Int), .int .i64 (0 : Int), .int .i64 (0 : Int), .int .i64 (0 : Int), .slice none 0 0] 25), _, _, .fz g, _, _, _] _) => ?_)
       clear hS86
       refine hK _ _ ?_; clear hK K
       refine l_e rfl (fun K hK => ?_)
       refine e_storeA hS87 rfl rfl (by kernel_rfl) (by repeat' (first | exact trivial | refine ⟨by first | rfl | assumption | exact one_if (by assumption), ?_⟩)) (i := 0) rfl rfl (fun w88 (hS88 : St _ _ [.blk b87 (.cells #[.int .i64 l82.k, .int .i64 l82.f, .int .i64 l82.t, .int .i64 l82.x, .slice an82 l82.nd.length cn82] 25), _, _, .fz g, _, _, _] _) => ?_)
       clear hS87
       refine hK _ _ ?_; clear hK K
       refine l_q rfl rfl (q_assignI rfl) ?_
       refine l_nil ?_
       refine hK81 _ _ ?_
       refine wp_seq_k (fun K89 hK89 => ?_)
       refine wp_region_lit ?_
       refine l_q rfl rfl (q_moveP rfl) ?_
       refine l_q rfl rfl (q_fieldAddr (ft := 3) (o := 1) rfl (by kernel_rfl)) ?_
       refine l_q rfl rfl (q_load1 rfl (by kernel_rfl) (hS88.cell (i := 5) rfl rfl)) ?_
       refine l_e rfl (fun K hK => ?_)
       have hS91 := hS88.fr3; clear hS88
       have hS92 := hS91.fr3; clear hS91
       have hS93 := hS92.fr3; clear hS92
       refine e_call (by kernel_rfl) (take_any k mb s (t + ls (absN L) x26.n) o (mdel L x26.n) g (EOk.del hE x26.n) hn82 (by omega) x26.n _ (St.begin (Γ := [_, _, _]) hS93)) rfl (after_M (Γ1 := [_, _, _]) hS93 (fun v90 G90 w90 hv90 hS90 => ?_))
       clear hS93
       obtain ⟨l90, b90, an90, cn90, rfl, rfl, hs90⟩ := hv90
       have hS94 : St _ _ [.blk k (.cells #[.map (some mb), .int .i64 (s : Int), .int .i64 ((((t + ls (absN L) x26.n) + ls (absN (mdel L x26.n)) x26.n) : Nat) : Int), .int .i64 (o : Int)] 60), .mp (.int .i64) mb (List.map nc (mdel (mdel L x26.n) x26.n)), .fz g, .ow 3 1 an90 l90.nd.length cn90 (iv l90.nd), _, _, _, _] _ := hS90; clear hS90
       have hn90 : NumOk (absN (mdel (mdel L x26.n) x26.n)) s := by rw [absN_del]; exact hn82.del _
       have hgl90 := ls_add (absN (mdel L x26.n)) x26.n; rw [← absN_del, absN_len, absN_len] at hgl90
       obtain ⟨_, hb90⟩ := tk_val hs90 (tkv_no (no_del L _))
       refine hK _ _ ?_; clear hK K
       refine l_q rfl rfl (q_move rfl) ?_
       refine l_q rfl rfl (q_extract rfl rfl) ?_
       refine l_q rfl rfl (q_extract rfl rfl) ?_
       refine l_e rfl (fun K hK => ?_)
       refine e_alloc (zv := .agg #[.int .i64 0, .int .i64 0, .int .i64 0, .int .i64 0, .slice none 0 0]) hS94 (by kernel_rfl) (fun b95 w95 (hS95 : St _ _ [.blk b95 (.cells #[.int .i64 (0 : Int), .int .i64 (0 : Int), .int .i64 (0 : Int), .int .i64 (0 : Int), .slice none 0 0] 25), _, _, .fz g, _, _, _, _, _] _) => ?_)
       clear hS94
       refine hK _ _ ?_; clear hK K
       refine l_e rfl (fun K hK => ?_)
       refine e_storeA hS95 rfl rfl (by kernel_rfl) (by repeat' (first | exact trivial | refine ⟨by first | rfl | assumption | exact one_if (by assumption), ?_⟩)) (i := 0) rfl rfl (fun w96 (hS96 : St _ _ [.blk b95 (.cells #[.int .i64 l90.k, .int .i64 l90.f, .int .i64 l90.t, .int .i64 l90.x, .slice an90 l90.nd.length cn90] 25), _, _, .fz g, _, _, _, _, _] _) => ?_)
       clear hS95
       refine hK _ _ ?_; clear hK K
       refine l_q rfl rfl (q_assignI rfl) ?_
       refine l_nil ?_
       refine hK89 _ _ ?_
       refine wp_seq_k (fun K97 hK97 => ?_)
       refine wp_region_lit ?_
       refine l_q rfl rfl (q_moveI rfl) ?_
       refine l_q rfl rfl (q_neq rfl rfl) ?_
       refine l_q rfl rfl (q_assignB rfl) ?_
       refine l_nil ?_
       refine hK97 _ _ ?_
       refine wp_seq_k (fun K98 hK98 => ?_)
       refine wp_seq_k (fun K99 hK99 => ?_)
       refine wp_region_lit ?_
       refine l_q rfl rfl (q_assignI rfl) ?_
       refine l_nil ?_
       refine hK99 _ _ ?_
       refine wp_block ?_
       refine c_loop (τ := Nat × Bool) [(14, 16), (85, 100)] (fun x => (fun (j : Nat) (bb : Bool) => [(14, .bool bb), (15, .int .i64 (j : Int))]) x.1 x.2) (fun x w' => (fun (j : Nat) (bb : Bool) => St w (fun _ => False) [.blk b95 (.cells #[.int .i64 l90.k, .int .i64 l90.f, .int .i64 l90.t, .int .i64 l90.x, .slice an90 l90.nd.length cn90] 25), .blk k (.cells #[.map (some mb), .int .i64 (s : Int), .int .i64 ((((t + ls (absN L) x26.n) + ls (absN (mdel L x26.n)) x26.n) : Nat) : Int), .int .i64 (o : Int)] 60), .mp (.int .i64) mb (List.map nc (mdel (mdel L x26.n) x26.n)), .fz g, .ow 3 1 an90 l90.nd.length cn90 (iv l90.nd), .blk b87 (.cells #[.int .i64 l82.k, .int .i64 l82.f, .int .i64 l82.t, .int .i64 l82.x, .slice an82 l82.nd.length cn82] 25), .ow 3 1 an82 l82.nd.length cn82 (iv l82.nd), .blk b27 (.cells #[.int .i64 x26.k, .int .i64 x26.n, .int .i64 x26.l.k, .int .i64 x26.l.f, .int .i64 x26.l.t, .int .i64 x26.l.x, .slice x26.ad x26.l.nd.length x26.cap] 43), .ow 25 5 sad sn.length scp (List.flatMap lc12 sn)] w' ∧ j ≤ sn.length ∧ bb = (decide (¬b82 = 0) || (sn.take j).any fun a => sameL l82 a.l)) x.1 x.2) (fun x => (fun (j : Nat) (bb : Bool) => sn.length - j) x.1 x.2) (⟨0, (decide (¬b82 = 0))⟩) ?_ (by repeat' (first | exact trivial | refine ⟨by first | rfl | exact int_succ _ | assumption, ?_⟩)) (fun x100 j100 w100 hJ100 K100 hK100 => ?_)
       ·
        exact ⟨hS96, Nat.zero_le _, by simp⟩
       ·
        obtain ⟨j, bb⟩ := x100
        obtain ⟨hS100, hj, hbb⟩ := hJ100
        try dsimp only at hS100 hj hbb ⊢
        refine wp_seq_k (fun K101 hK101 => ?_)
        refine wp_seq_k (fun K102 hK102 => ?_)
        refine wp_region_lit ?_
        refine l_q rfl rfl (q_moveI rfl) ?_
        refine l_q rfl rfl (q_moveS rfl) ?_
        refine l_q rfl rfl (q_lenSl (e := 25) rfl (by kernel_rfl)) ?_
        refine l_q rfl rfl (q_lss rfl rfl) ?_
        refine l_nil ?_
        refine hK102 _ _ ?_
        refine c_cond rfl (fun hc103 => ?_) (fun hc103 => ?_)
        ·
         have hc103b := hc103
         try simp only [decide_eq_true_eq, decide_eq_false_iff_not, Bool.not_eq_true', Bool.not_eq_false', Bool.and_eq_true, Bool.or_eq_true, Int.not_lt, Int.not_le, ne_eq, Decidable.not_not] at hc103
         refine wp_skip ?_
         refine hK101 _ _ ?_
         refine wp_seq_k (fun K104 hK104 => ?_)
         refine wp_block ?_
         refine wp_seq_k (fun K105 hK105 => ?_)
         refine r_any (by kernel_rfl) hS100 (fun w106 hS106 => ?_)
         clear hS100
         refine o_held (i := 0) [5, 6] (fun _ _ => trivial) rfl rfl (by kernel_rfl) (goes0 rfl) (QOk.then (QOk.inBlock (QOk.then (QOk.then (QOk.inBlock (QOk.then (QOk.inBlock (QOk.then (QOk.inBlock (QOk.then (QOk.then (QOk.inBlock (QOk.then QOk.body))))))))))))) (q_loadA (m := 5) rfl (by kernel_rfl) (by kernel_rfl) (hS106.blk (i := 5) rfl) rfl rfl) ?_
         refine o_pure (i := 1) (fun j w => ⟨(fun _ _ => trivial) j w, fun _ h => h⟩) rfl rfl (by kernel_rfl) (goes0 rfl) (QOk.then (QOk.inBlock (QOk.then (QOk.then (QOk.inBlock (QOk.then (QOk.inBlock (QOk.then (QOk.inBlock (QOk.then (QOk.then (QOk.inBlock (QOk.then QOk.body))))))))))))) (fun w => q_moveS rfl) ?_
         refine o_pure (i := 2) (fun j w => ⟨(fun _ _ => trivial) j w, fun _ h => h⟩) rfl rfl (by kernel_rfl) (goes0 rfl) (QOk.then (QOk.inBlock (QOk.then (QOk.then (QOk.inBlock (QOk.then (QOk.inBlock (QOk.then (QOk.inBlock (QOk.then (QOk.then (QOk.inBlock (QOk.then QOk.body))))))))))))) (fun w => q_moveI rfl) ?_
         refine o_pure (i := 3) (fun j w => ⟨(fun _ _ => trivial) j w, fun _ h => h⟩) rfl rfl (by kernel_rfl) (goes0 rfl) (QOk.then (QOk.inBlock (QOk.then (QOk.then (QOk.inBlock (QOk.then (QOk.inBlock (QOk.then (QOk.inBlock (QOk.then (QOk.then (QOk.inBlock (QOk.then QOk.body))))))))))))) (fun w => q_ixG (e := 25) (m := 5) (j := j) rfl rfl (by kernel_rfl) (by kernel_rfl) (by first | rfl | omega) (by omega) (hS106.owG (i := 8) rfl) (by rw [rows_len (c := lc12) (m := 5) (fun _ => rfl)]; first | omega | (simp only [List.length_append, List.length_map, List.length_cons, List.length_nil, List.length_take, List.length_drop, List.length_set] <;> omega))) ?_
         obtain ⟨x107, hx107⟩ : ∃ x, (sn)[j]? = some x := ⟨_, List.getElem?_eq_getElem (by first | omega | (simp only [List.length_append, List.length_map, List.length_cons, List.length_nil, List.length_take, List.length_drop, List.length_set] <;> omega) | (simp <;> omega))⟩
         have hln_x107 := (hsn x107 (List.mem_of_getElem? hx107)).2
         refine o_held (i := 4) [5, 6] (fun j w => ⟨(fun _ _ => trivial) j w, fun _ h => h⟩) rfl rfl (by kernel_rfl) (goes0 rfl) (QOk.then (QOk.inBlock (QOk.then (QOk.then (QOk.inBlock (QOk.then (QOk.inBlock (QOk.then (QOk.inBlock (QOk.then (QOk.then (QOk.inBlock (QOk.then QOk.body))))))))))))) (q_loadGA (m := 5) rfl (by kernel_rfl) (by kernel_rfl) (hS106.owG (i := 8) rfl) (row_take hx107 (c := lc12) (m := 5) (fun _ => rfl)) rfl (by decide)) ?_
         refine o_eff (i := 5) (by kernel_rfl) rfl (goes0 rfl) (fun K hK => ?_)
         refine e_call (by kernel_rfl) (lsame_ok l82 x107.l l82.nd.length x107.l.nd.length (by first | rfl | omega) (by first | rfl | omega) (by omega) (by omega) _ _ _ _ _ (hS106.owG (i := 6) rfl) ((hsn x107 (List.mem_of_getElem? hx107)).1.mono hS106.base)) rfl (after_R hS106 (fun v108 w108 hv108 hS108 => ?_))
         clear hS106
         obtain rfl := hv108
         refine hK _ _ ⟨⟨trivial, fun h => absurd h (by decide)⟩, fun h => absurd h (by decide)⟩ ?_; clear hK K
         refine o_pure (i := 6) (fun j w => ⟨(fun j w => ⟨(fun _ _ => trivial) j w, fun _ h => h⟩) j w, fun _ h => h⟩) rfl rfl (by kernel_rfl) (goes0 rfl) (QOk.then (QOk.inBlock (QOk.then (QOk.then (QOk.inBlock (QOk.then (QOk.inBlock (QOk.then (QOk.inBlock (QOk.then (QOk.then (QOk.inBlock (QOk.then QOk.body))))))))))))) (fun w => q_assignB rfl) ?_
         refine o_done (by kernel_rfl) ?_
         refine hK105 _ _ ?_
         refine wp_region_lit ?_
         refine l_q rfl rfl (q_moveB rfl) ?_
         refine l_q rfl rfl (q_moveB rfl) ?_
         refine g_splitL (t := 98) rfl (fun hg109 => ?_) (fun hg109 => ?_)
         ·
          have hg109b := hg109
          try simp only [decide_eq_true_eq, decide_eq_false_iff_not, Bool.not_eq_true', Bool.not_eq_false', Bool.and_eq_true, Bool.or_eq_true, Int.not_lt, Int.not_le, ne_eq, Decidable.not_not] at hg109
          refine l_off rfl rfl rfl hg109b ?_
          refine l_q rfl rfl (q_pickT rfl hg109b rfl) ?_
          refine l_q rfl rfl (q_assignB rfl) ?_
          refine l_nil ?_
          refine hK104 _ _ ?_
          refine wp_region_lit ?_
          refine l_q rfl rfl (q_moveI rfl) ?_
          refine l_q rfl rfl (q_addx rfl rfl (by first | decide | omega) (by first | decide | omega)) ?_
          refine l_q rfl rfl (q_assignI rfl) ?_
          refine l_nil ?_
          refine hK100 _ _ (came (⟨(j + 1), true⟩) (by repeat' (first | exact Agree.refl _ _ | refine Agree.up ?_ rfl | refine Agree.hav2 ?_ rfl | refine Agree.ups2 ?_ rfl)) (by repeat' (first | exact trivial | refine ⟨by first | rfl | exact int_succ _ | assumption, ?_⟩)) ?_)
          exact ⟨⟨hS108, (by show j + 1 ≤ sn.length; omega), (by rw [any_next hx107, ← hbb, hg109b]; rfl)⟩, by (show sn.length - (j + 1) < sn.length - j); omega⟩
         ·
          have hg109b := hg109
          try simp only [decide_eq_true_eq, decide_eq_false_iff_not, Bool.not_eq_true', Bool.not_eq_false', Bool.and_eq_true, Bool.or_eq_true, Int.not_lt, Int.not_le, ne_eq, Decidable.not_not] at hg109
          refine l_on rfl rfl hg109b ?_
          refine l_q rfl rfl (q_moveB rfl) ?_
          refine l_q rfl rfl (q_pickF rfl hg109b rfl) ?_
          refine l_q rfl rfl (q_assignB rfl) ?_
          refine l_nil ?_
          refine hK104 _ _ ?_
          refine wp_region_lit ?_
          refine l_q rfl rfl (q_moveI rfl) ?_
          refine l_q rfl rfl (q_addx rfl rfl (by first | decide | omega) (by first | decide | omega)) ?_
          refine l_q rfl rfl (q_assignI rfl) ?_
          refine l_nil ?_
          refine hK100 _ _ (came (⟨(j + 1), (sameL l82 x107.l)⟩) (by repeat' (first | exact Agree.refl _ _ | refine Agree.up ?_ rfl | refine Agree.hav2 ?_ rfl | refine Agree.ups2 ?_ rfl)) (by repeat' (first | exact trivial | refine ⟨by first | rfl | exact int_succ _ | assumption, ?_⟩)) ?_)
          exact ⟨⟨hS108, (by show j + 1 ≤ sn.length; omega), (by rw [any_next hx107, ← hbb, hg109b]; rfl)⟩, by (show sn.length - (j + 1) < sn.length - j); omega⟩
        ·
         have hc103b := hc103
         try simp only [decide_eq_true_eq, decide_eq_false_iff_not, Bool.not_eq_true', Bool.not_eq_false', Bool.and_eq_true, Bool.or_eq_true, Int.not_lt, Int.not_le, ne_eq, Decidable.not_not] at hc103
         refine wp_exit ?_
         refine hK98 _ _ ?_
         refine wp_seq_k (fun K110 hK110 => ?_)
         have hjj : j = sn.length := by omega
         rw [hjj, List.take_length, found_all hn hs82 hc] at hbb
         subst hbb
         refine wp_region_lit ?_
         refine l_q rfl rfl (q_moveB rfl) ?_
         refine l_q rfl rfl (q_not rfl) ?_
         refine l_q rfl rfl (q_moveB rfl) ?_
         refine l_on rfl rfl rfl ?_
         refine l_q rfl rfl (q_moveI rfl) ?_
         refine l_on rfl rfl rfl ?_
         refine l_q rfl rfl (q_neq rfl rfl) ?_
         refine l_q rfl rfl (q_pickF rfl rfl rfl) ?_
         refine l_nil ?_
         refine hK110 _ _ ?_
         refine c_cond rfl (fun hc111 => ?_) (fun hc111 => ?_)
         ·
          have hc111b := hc111
          try simp only [decide_eq_true_eq, decide_eq_false_iff_not, Bool.not_eq_true', Bool.not_eq_false', Bool.and_eq_true, Bool.or_eq_true, Int.not_lt, Int.not_le, ne_eq, Decidable.not_not] at hc111
          exfalso; first | omega | exact hc111 trivial
         ·
          have hc111b := hc111
          try simp only [decide_eq_true_eq, decide_eq_false_iff_not, Bool.not_eq_true', Bool.not_eq_false', Bool.and_eq_true, Bool.or_eq_true, Int.not_lt, Int.not_le, ne_eq, Decidable.not_not] at hc111
          refine wp_skip ?_
          refine hK37 _ _ ?_
          refine wp_seq_k (fun K112 hK112 => ?_)
          refine wp_region_lit ?_
          refine l_q rfl rfl (q_moveP rfl) ?_
          refine l_e rfl (fun K hK => ?_)
          refine e_call (by kernel_rfl) (told_ok k mb s ((t + ls (absN L) x26.n) + ls (absN (mdel L x26.n)) x26.n) o _ (hS100.blk (i := 1) rfl)) rfl (after_R hS100 (fun v113 w113 hv113 hS113 => ?_))
          clear hS100
          obtain rfl := hv113
          refine hK _ _ ?_; clear hK K
          refine l_q rfl rfl (q_move rfl) ?_
          refine l_q rfl rfl (q_extract rfl rfl) ?_
          refine l_q rfl rfl (q_extract rfl rfl) ?_
          refine l_q rfl rfl (q_extract rfl rfl) ?_
          refine l_q rfl rfl (q_assignI rfl) ?_
          refine l_q rfl rfl (q_assignI rfl) ?_
          refine l_q rfl rfl (q_assignI rfl) ?_
          refine l_nil ?_
          refine hK112 _ _ ?_
          refine wp_seq_k (fun K114 hK114 => ?_)
          refine wp_region_lit ?_
          refine l_q rfl rfl (q_moveI rfl) ?_
          refine l_q rfl rfl (q_moveI rfl) ?_
          refine l_q rfl rfl (q_neq rfl rfl) ?_
          refine l_q rfl rfl (q_moveB rfl) ?_
          refine g_splitL (t := 138) rfl (fun hg115 => ?_) (fun hg115 => ?_)
          ·
           have hg115b := hg115
           try simp only [decide_eq_true_eq, decide_eq_false_iff_not, Bool.not_eq_true', Bool.not_eq_false', Bool.and_eq_true, Bool.or_eq_true, Int.not_lt, Int.not_le, ne_eq, Decidable.not_not] at hg115
           exfalso; first | omega | exact hg115 trivial
          ·
           have hg115b := hg115
           try simp only [decide_eq_true_eq, decide_eq_false_iff_not, Bool.not_eq_true', Bool.not_eq_false', Bool.and_eq_true, Bool.or_eq_true, Int.not_lt, Int.not_le, ne_eq, Decidable.not_not] at hg115
           refine l_on rfl rfl hg115b ?_
           refine l_q rfl rfl (q_moveI rfl) ?_
           refine l_on rfl rfl hg115b ?_
           refine l_q rfl rfl (q_moveI rfl) ?_
           refine l_on rfl rfl hg115b ?_
           refine l_q rfl rfl (q_moveI rfl) ?_
           refine l_on rfl rfl hg115b ?_
           refine l_q rfl rfl (q_addx rfl rfl (by first | decide | omega) (by first | decide | omega)) ?_
           refine l_on rfl rfl hg115b ?_
           refine l_q rfl rfl (q_moveP rfl) ?_
           refine l_on rfl rfl hg115b ?_
           refine l_e rfl (fun K hK => ?_)
           have hlm116 : (List.map Prod.fst (mdel (mdel L x26.n) x26.n)).length = (mdel (mdel L x26.n) x26.n).length := List.length_map _
           refine e_call (by kernel_rfl) (nums_ok k mb s ((t + ls (absN L) x26.n) + ls (absN (mdel L x26.n)) x26.n) o (mdel (mdel L x26.n) x26.n) hn90 (by omega) (by omega) _ (hS113.blk (i := 1) rfl) (hS113.map (i := 2) rfl) ((EOk.del (EOk.del hE x26.n) x26.n).mono (hS113.fz (i := 3) rfl))) rfl (after_N hS113 (fun v116 G116 w116 hv116 hS116 => ?_))
           clear hS113
           obtain ⟨ad116, cp116, rfl, rfl⟩ := hv116
           have hS117 : St _ _ [.ow 3 1 ad116 ((List.map Prod.fst (mdel (mdel L x26.n) x26.n)).length) cp116 (iv (List.map Prod.fst (mdel (mdel L x26.n) x26.n))), _, _, _, .fz g, _, _, _, _, _] _ := hS116; clear hS116
           refine hK _ _ ?_; clear hK K
           refine l_on rfl rfl hg115b ?_
           refine l_q rfl rfl (q_lenSl (e := 3) rfl (by kernel_rfl)) ?_
           refine l_on rfl rfl hg115b ?_
           refine l_q rfl rfl (q_addx rfl rfl (by first | decide | omega) (by first | decide | omega)) ?_
           refine l_on rfl rfl hg115b ?_
           refine l_q rfl rfl (q_neq rfl rfl) ?_
           refine l_q rfl rfl (q_pickF rfl hg115b rfl) ?_
           refine l_nil ?_
           refine hK114 _ _ ?_
           refine c_cond rfl (fun hc118 => ?_) (fun hc118 => ?_)
           ·
            have hc118b := hc118
            try simp only [decide_eq_true_eq, decide_eq_false_iff_not, Bool.not_eq_true', Bool.not_eq_false', Bool.and_eq_true, Bool.or_eq_true, Int.not_lt, Int.not_le, ne_eq, Decidable.not_not] at hc118
            exfalso; first | omega | exact hc118 trivial
           ·
            have hc118b := hc118
            try simp only [decide_eq_true_eq, decide_eq_false_iff_not, Bool.not_eq_true', Bool.not_eq_false', Bool.and_eq_true, Bool.or_eq_true, Int.not_lt, Int.not_le, ne_eq, Decidable.not_not] at hc118
            refine wp_skip ?_
            refine hK24 _ _ ?_
            refine wp_region_lit ?_
            refine l_q rfl rfl (q_moveI rfl) ?_
            refine l_q rfl rfl (q_addx rfl rfl (by first | decide | omega) (by first | decide | omega)) ?_
            refine l_q rfl rfl (q_assignI rfl) ?_
            refine l_nil ?_
            have hS119 := hS117.fr9; clear hS117
            have hS120 := hS119.fr5; clear hS119
            have hS121 := hS120.fr5; clear hS120
            have hS122 := hS121.fr5; clear hS121
            have hS123 : St _ _ [_, _, .fz g, _] _ := hS122.only 4; clear hS122
            refine hK19 _ _ (came (⟨(i + 1), s, ((t + ls (absN L) x26.n) + ls (absN (mdel L x26.n)) x26.n), o, (mdel (mdel L x26.n) x26.n), g, sn, sad, scp⟩) (by repeat' (first | exact Agree.refl _ _ | refine Agree.up ?_ rfl | refine Agree.hav2 ?_ rfl | refine Agree.ups2 ?_ rfl)) (by repeat' (first | exact trivial | refine ⟨by first | rfl | exact int_succ _ | assumption, ?_⟩)) ?_)
            exact ⟨⟨hS123, (by show i + 1 ≤ 80; omega), (by show s ≤ i + 1; omega), (by show s = ((t + ls (absN L) x26.n) + ls (absN (mdel L x26.n)) x26.n) + o + List.length (mdel (mdel L x26.n) x26.n); omega), (EOk.del (EOk.del hE x26.n) x26.n), hn90, ((hc.del _).del _), hsn, (by show List.length sn ≤ i + 1; first | omega | (simp only [List.length_append, List.length_cons, List.length_nil]; omega))⟩, by (show 80 - (i + 1) < 80 - i); omega⟩
      ·
       have hc80b := hc80
       try simp only [decide_eq_true_eq, decide_eq_false_iff_not, Bool.not_eq_true', Bool.not_eq_false', Bool.and_eq_true, Bool.or_eq_true, Int.not_lt, Int.not_le, ne_eq, Decidable.not_not] at hc80
       refine wp_seq_k (fun K124 hK124 => ?_)
       refine wp_region_lit ?_
       refine l_q rfl rfl (q_eql rfl rfl) ?_
       refine l_q rfl rfl (q_assignB rfl) ?_
       refine l_nil ?_
       refine hK124 _ _ ?_
       refine c_cond rfl (fun hc125 => ?_) (fun hc125 => ?_)
       ·
        have hc125b := hc125
        try simp only [decide_eq_true_eq, decide_eq_false_iff_not, Bool.not_eq_true', Bool.not_eq_false', Bool.and_eq_true, Bool.or_eq_true, Int.not_lt, Int.not_le, ne_eq, Decidable.not_not] at hc125
        refine wp_seq_k (fun K126 hK126 => ?_)
        refine wp_region_lit ?_
        refine l_q rfl rfl (q_moveP rfl) ?_
        refine l_q rfl rfl (q_fieldAddr (ft := 3) (o := 1) rfl (by kernel_rfl)) ?_
        refine l_q rfl rfl (q_load1 rfl (by kernel_rfl) (hS28.cell (i := 0) rfl rfl)) ?_
        refine l_e rfl (fun K hK => ?_)
        have hS128 := hS28.fr3; clear hS28
        have hS129 := hS128.fr3; clear hS128
        have hS130 := hS129.fr3; clear hS129
        refine e_call (by kernel_rfl) (twice_any k mb s t o L g hE hn (by omega) x26.n _ (St.begin (Γ := [_, _, _]) hS130)) rfl (after_M (Γ1 := [_, _, _]) hS130 (fun v127 G127 w127 hv127 hS127 => ?_))
        clear hS130
        obtain ⟨a127, b127, L127, s127, g127, rfl, rfl, hle127, hE127, hs127⟩ := hv127
        have hS131 : St _ _ [.blk k (.cells #[.map (some mb), .int .i64 (s127 : Int), .int .i64 (t : Int), .int .i64 (o : Int)] 60), .mp (.int .i64) mb (List.map nc L127), .fz g127, _, _] _ := hS127; clear hS127
        have hn127 := (tw_grow hn hs127).2.2
        have hgr127 := tw_grow hn hs127
        have hgl127 := hgr127.2.1; have hgs127 := hgr127.1; rw [absN_len, absN_len] at hgl127
        refine hK _ _ ?_; clear hK K
        refine l_q rfl rfl (q_move rfl) ?_
        refine l_q rfl rfl (q_extract rfl rfl) ?_
        refine l_q rfl rfl (q_extract rfl rfl) ?_
        refine l_q rfl rfl (q_assignI rfl) ?_
        refine l_q rfl rfl (q_assignI rfl) ?_
        refine l_nil ?_
        refine hK126 _ _ ?_
        refine wp_seq_k (fun K132 hK132 => ?_)
        refine wp_region_lit ?_
        refine l_q rfl rfl (q_moveI rfl) ?_
        refine l_q rfl rfl (q_eql rfl rfl) ?_
        refine l_nil ?_
        refine hK132 _ _ ?_
        refine c_cond rfl (fun hc133 => ?_) (fun hc133 => ?_)
        ·
         have hc133b := hc133
         try simp only [decide_eq_true_eq, decide_eq_false_iff_not, Bool.not_eq_true', Bool.not_eq_false', Bool.and_eq_true, Bool.or_eq_true, Int.not_lt, Int.not_le, ne_eq, Decidable.not_not] at hc133
         obtain ⟨ly, hy0, hy1, hy2, hy3, _⟩ := tw_yes hn hs127 hc133; subst hy2
         refine wp_seq_k (fun K134 hK134 => ?_)
         refine wp_seq_k (fun K135 hK135 => ?_)
         refine wp_region_lit ?_
         refine l_q rfl rfl (q_moveI rfl) ?_
         refine l_q rfl rfl (q_moveI rfl) ?_
         refine l_q rfl rfl (q_neq rfl rfl) ?_
         refine l_nil ?_
         refine hK135 _ _ ?_
         refine c_cond rfl (fun hc136 => ?_) (fun hc136 => ?_)
         ·
          have hc136b := hc136
          try simp only [decide_eq_true_eq, decide_eq_false_iff_not, Bool.not_eq_true', Bool.not_eq_false', Bool.and_eq_true, Bool.or_eq_true, Int.not_lt, Int.not_le, ne_eq, Decidable.not_not] at hc136
          exfalso; first | omega | exact hc136 trivial
         ·
          have hc136b := hc136
          try simp only [decide_eq_true_eq, decide_eq_false_iff_not, Bool.not_eq_true', Bool.not_eq_false', Bool.and_eq_true, Bool.or_eq_true, Int.not_lt, Int.not_le, ne_eq, Decidable.not_not] at hc136
          refine wp_skip ?_
          refine hK134 _ _ ?_
          refine wp_region_lit ?_
          refine l_q rfl rfl (q_moveI rfl) ?_
          refine l_q rfl rfl (q_addx rfl rfl (by first | decide | omega) (by first | decide | omega)) ?_
          refine l_q rfl rfl (q_assignI rfl) ?_
          refine l_nil ?_
          refine hK37 _ _ ?_
          refine wp_seq_k (fun K137 hK137 => ?_)
          refine wp_region_lit ?_
          refine l_q rfl rfl (q_moveP rfl) ?_
          refine l_e rfl (fun K hK => ?_)
          refine e_call (by kernel_rfl) (told_ok k mb (s + 1) t o _ (hS131.blk (i := 0) rfl)) rfl (after_R hS131 (fun v138 w138 hv138 hS138 => ?_))
          clear hS131
          obtain rfl := hv138
          refine hK _ _ ?_; clear hK K
          refine l_q rfl rfl (q_move rfl) ?_
          refine l_q rfl rfl (q_extract rfl rfl) ?_
          refine l_q rfl rfl (q_extract rfl rfl) ?_
          refine l_q rfl rfl (q_extract rfl rfl) ?_
          refine l_q rfl rfl (q_assignI rfl) ?_
          refine l_q rfl rfl (q_assignI rfl) ?_
          refine l_q rfl rfl (q_assignI rfl) ?_
          refine l_nil ?_
          refine hK137 _ _ ?_
          refine wp_seq_k (fun K139 hK139 => ?_)
          refine wp_region_lit ?_
          refine l_q rfl rfl (q_moveI rfl) ?_
          refine l_q rfl rfl (q_moveI rfl) ?_
          refine l_q rfl rfl (q_neq rfl rfl) ?_
          refine l_q rfl rfl (q_moveB rfl) ?_
          refine g_splitL (t := 138) rfl (fun hg140 => ?_) (fun hg140 => ?_)
          ·
           have hg140b := hg140
           try simp only [decide_eq_true_eq, decide_eq_false_iff_not, Bool.not_eq_true', Bool.not_eq_false', Bool.and_eq_true, Bool.or_eq_true, Int.not_lt, Int.not_le, ne_eq, Decidable.not_not] at hg140
           exfalso; first | omega | exact hg140 trivial
          ·
           have hg140b := hg140
           try simp only [decide_eq_true_eq, decide_eq_false_iff_not, Bool.not_eq_true', Bool.not_eq_false', Bool.and_eq_true, Bool.or_eq_true, Int.not_lt, Int.not_le, ne_eq, Decidable.not_not] at hg140
           refine l_on rfl rfl hg140b ?_
           refine l_q rfl rfl (q_moveI rfl) ?_
           refine l_on rfl rfl hg140b ?_
           refine l_q rfl rfl (q_moveI rfl) ?_
           refine l_on rfl rfl hg140b ?_
           refine l_q rfl rfl (q_moveI rfl) ?_
           refine l_on rfl rfl hg140b ?_
           refine l_q rfl rfl (q_addx rfl rfl (by first | decide | omega) (by first | decide | omega)) ?_
           refine l_on rfl rfl hg140b ?_
           refine l_q rfl rfl (q_moveP rfl) ?_
           refine l_on rfl rfl hg140b ?_
           refine l_e rfl (fun K hK => ?_)
           have hlm141 : (List.map Prod.fst L127).length = L127.length := List.length_map _
           refine e_call (by kernel_rfl) (nums_ok k mb (s + 1) t o L127 hn127 (by omega) (by omega) _ (hS138.blk (i := 0) rfl) (hS138.map (i := 1) rfl) (hE127.mono (hS138.fz (i := 2) rfl))) rfl (after_N hS138 (fun v141 G141 w141 hv141 hS141 => ?_))
           clear hS138
           obtain ⟨ad141, cp141, rfl, rfl⟩ := hv141
           have hS142 : St _ _ [.ow 3 1 ad141 ((List.map Prod.fst L127).length) cp141 (iv (List.map Prod.fst L127)), _, _, .fz g127, _, _] _ := hS141; clear hS141
           refine hK _ _ ?_; clear hK K
           refine l_on rfl rfl hg140b ?_
           refine l_q rfl rfl (q_lenSl (e := 3) rfl (by kernel_rfl)) ?_
           refine l_on rfl rfl hg140b ?_
           refine l_q rfl rfl (q_addx rfl rfl (by first | decide | omega) (by first | decide | omega)) ?_
           refine l_on rfl rfl hg140b ?_
           refine l_q rfl rfl (q_neq rfl rfl) ?_
           refine l_q rfl rfl (q_pickF rfl hg140b rfl) ?_
           refine l_nil ?_
           refine hK139 _ _ ?_
           refine c_cond rfl (fun hc143 => ?_) (fun hc143 => ?_)
           ·
            have hc143b := hc143
            try simp only [decide_eq_true_eq, decide_eq_false_iff_not, Bool.not_eq_true', Bool.not_eq_false', Bool.and_eq_true, Bool.or_eq_true, Int.not_lt, Int.not_le, ne_eq, Decidable.not_not] at hc143
            exfalso; first | omega | exact hc143 trivial
           ·
            have hc143b := hc143
            try simp only [decide_eq_true_eq, decide_eq_false_iff_not, Bool.not_eq_true', Bool.not_eq_false', Bool.and_eq_true, Bool.or_eq_true, Int.not_lt, Int.not_le, ne_eq, Decidable.not_not] at hc143
            refine wp_skip ?_
            refine hK24 _ _ ?_
            refine wp_region_lit ?_
            refine l_q rfl rfl (q_moveI rfl) ?_
            refine l_q rfl rfl (q_addx rfl rfl (by first | decide | omega) (by first | decide | omega)) ?_
            refine l_q rfl rfl (q_assignI rfl) ?_
            refine l_nil ?_
            have hS144 := hS142.fr5; clear hS142
            have hS145 := hS144.fr4; clear hS144
            have hS146 := hS145.fr4; clear hS145
            have hS147 := hS146.fr4; clear hS146
            have hS148 : St _ _ [_, _, .fz g127, _] _ := hS147.only 4; clear hS147
            refine hK19 _ _ (came (⟨(i + 1), (s + 1), t, o, L127, g127, sn, sad, scp⟩) (by repeat' (first | exact Agree.refl _ _ | refine Agree.up ?_ rfl | refine Agree.hav2 ?_ rfl | refine Agree.ups2 ?_ rfl)) (by repeat' (first | exact trivial | refine ⟨by first | rfl | exact int_succ _ | assumption, ?_⟩)) ?_)
            exact ⟨⟨hS148, (by show i + 1 ≤ 80; omega), (by show (s + 1) ≤ i + 1; omega), (by show (s + 1) = t + o + List.length L127; omega), hE127, hn127, (hc.tw hy0 hy3), hsn, (by show List.length sn ≤ i + 1; first | omega | (simp only [List.length_append, List.length_cons, List.length_nil]; omega))⟩, by (show 80 - (i + 1) < 80 - i); omega⟩
        ·
         have hc133b := hc133
         try simp only [decide_eq_true_eq, decide_eq_false_iff_not, Bool.not_eq_true', Bool.not_eq_false', Bool.and_eq_true, Bool.or_eq_true, Int.not_lt, Int.not_le, ne_eq, Decidable.not_not] at hc133
         obtain ⟨hy3, hy2⟩ := tw_non hn hs127 hc133; have hy2' := hy2.symm; subst hy2'
         refine wp_skip ?_
         refine hK37 _ _ ?_
         refine wp_seq_k (fun K149 hK149 => ?_)
         refine wp_region_lit ?_
         refine l_q rfl rfl (q_moveP rfl) ?_
         refine l_e rfl (fun K hK => ?_)
         refine e_call (by kernel_rfl) (told_ok k mb s t o _ (hS131.blk (i := 0) rfl)) rfl (after_R hS131 (fun v150 w150 hv150 hS150 => ?_))
         clear hS131
         obtain rfl := hv150
         refine hK _ _ ?_; clear hK K
         refine l_q rfl rfl (q_move rfl) ?_
         refine l_q rfl rfl (q_extract rfl rfl) ?_
         refine l_q rfl rfl (q_extract rfl rfl) ?_
         refine l_q rfl rfl (q_extract rfl rfl) ?_
         refine l_q rfl rfl (q_assignI rfl) ?_
         refine l_q rfl rfl (q_assignI rfl) ?_
         refine l_q rfl rfl (q_assignI rfl) ?_
         refine l_nil ?_
         refine hK149 _ _ ?_
         refine wp_seq_k (fun K151 hK151 => ?_)
         refine wp_region_lit ?_
         refine l_q rfl rfl (q_moveI rfl) ?_
         refine l_q rfl rfl (q_moveI rfl) ?_
         refine l_q rfl rfl (q_neq rfl rfl) ?_
         refine l_q rfl rfl (q_moveB rfl) ?_
         refine g_splitL (t := 138) rfl (fun hg152 => ?_) (fun hg152 => ?_)
         ·
          have hg152b := hg152
          try simp only [decide_eq_true_eq, decide_eq_false_iff_not, Bool.not_eq_true', Bool.not_eq_false', Bool.and_eq_true, Bool.or_eq_true, Int.not_lt, Int.not_le, ne_eq, Decidable.not_not] at hg152
          exfalso; first | omega | exact hg152 trivial
         ·
          have hg152b := hg152
          try simp only [decide_eq_true_eq, decide_eq_false_iff_not, Bool.not_eq_true', Bool.not_eq_false', Bool.and_eq_true, Bool.or_eq_true, Int.not_lt, Int.not_le, ne_eq, Decidable.not_not] at hg152
          refine l_on rfl rfl hg152b ?_
          refine l_q rfl rfl (q_moveI rfl) ?_
          refine l_on rfl rfl hg152b ?_
          refine l_q rfl rfl (q_moveI rfl) ?_
          refine l_on rfl rfl hg152b ?_
          refine l_q rfl rfl (q_moveI rfl) ?_
          refine l_on rfl rfl hg152b ?_
          refine l_q rfl rfl (q_addx rfl rfl (by first | decide | omega) (by first | decide | omega)) ?_
          refine l_on rfl rfl hg152b ?_
          refine l_q rfl rfl (q_moveP rfl) ?_
          refine l_on rfl rfl hg152b ?_
          refine l_e rfl (fun K hK => ?_)
          have hlm153 : (List.map Prod.fst L127).length = L127.length := List.length_map _
          refine e_call (by kernel_rfl) (nums_ok k mb s t o L127 hn127 (by omega) (by omega) _ (hS150.blk (i := 0) rfl) (hS150.map (i := 1) rfl) (hE127.mono (hS150.fz (i := 2) rfl))) rfl (after_N hS150 (fun v153 G153 w153 hv153 hS153 => ?_))
          clear hS150
          obtain ⟨ad153, cp153, rfl, rfl⟩ := hv153
          have hS154 : St _ _ [.ow 3 1 ad153 ((List.map Prod.fst L127).length) cp153 (iv (List.map Prod.fst L127)), _, _, .fz g127, _, _] _ := hS153; clear hS153
          refine hK _ _ ?_; clear hK K
          refine l_on rfl rfl hg152b ?_
          refine l_q rfl rfl (q_lenSl (e := 3) rfl (by kernel_rfl)) ?_
          refine l_on rfl rfl hg152b ?_
          refine l_q rfl rfl (q_addx rfl rfl (by first | decide | omega) (by first | decide | omega)) ?_
          refine l_on rfl rfl hg152b ?_
          refine l_q rfl rfl (q_neq rfl rfl) ?_
          refine l_q rfl rfl (q_pickF rfl hg152b rfl) ?_
          refine l_nil ?_
          refine hK151 _ _ ?_
          refine c_cond rfl (fun hc155 => ?_) (fun hc155 => ?_)
          ·
           have hc155b := hc155
           try simp only [decide_eq_true_eq, decide_eq_false_iff_not, Bool.not_eq_true', Bool.not_eq_false', Bool.and_eq_true, Bool.or_eq_true, Int.not_lt, Int.not_le, ne_eq, Decidable.not_not] at hc155
           exfalso; first | omega | exact hc155 trivial
          ·
           have hc155b := hc155
           try simp only [decide_eq_true_eq, decide_eq_false_iff_not, Bool.not_eq_true', Bool.not_eq_false', Bool.and_eq_true, Bool.or_eq_true, Int.not_lt, Int.not_le, ne_eq, Decidable.not_not] at hc155
           refine wp_skip ?_
           refine hK24 _ _ ?_
           refine wp_region_lit ?_
           refine l_q rfl rfl (q_moveI rfl) ?_
           refine l_q rfl rfl (q_addx rfl rfl (by first | decide | omega) (by first | decide | omega)) ?_
           refine l_q rfl rfl (q_assignI rfl) ?_
           refine l_nil ?_
           have hS156 := hS154.fr5; clear hS154
           have hS157 := hS156.fr4; clear hS156
           have hS158 := hS157.fr4; clear hS157
           have hS159 := hS158.fr4; clear hS158
           have hS160 : St _ _ [_, _, .fz g127, _] _ := hS159.only 4; clear hS159
           refine hK19 _ _ (came (⟨(i + 1), s, t, o, L127, g127, sn, sad, scp⟩) (by repeat' (first | exact Agree.refl _ _ | refine Agree.up ?_ rfl | refine Agree.hav2 ?_ rfl | refine Agree.ups2 ?_ rfl)) (by repeat' (first | exact trivial | refine ⟨by first | rfl | exact int_succ _ | assumption, ?_⟩)) ?_)
           exact ⟨⟨hS160, (by show i + 1 ≤ 80; omega), (by show s ≤ i + 1; omega), (by show s = t + o + List.length L127; omega), hE127, hn127, (hc.same hy3), hsn, (by show List.length sn ≤ i + 1; first | omega | (simp only [List.length_append, List.length_cons, List.length_nil]; omega))⟩, by (show 80 - (i + 1) < 80 - i); omega⟩
       ·
        have hc125b := hc125
        try simp only [decide_eq_true_eq, decide_eq_false_iff_not, Bool.not_eq_true', Bool.not_eq_false', Bool.and_eq_true, Bool.or_eq_true, Int.not_lt, Int.not_le, ne_eq, Decidable.not_not] at hc125
        refine wp_seq_k (fun K161 hK161 => ?_)
        refine wp_region_lit ?_
        refine l_q rfl rfl (q_eql rfl rfl) ?_
        refine l_q rfl rfl (q_assignB rfl) ?_
        refine l_nil ?_
        refine hK161 _ _ ?_
        refine c_cond rfl (fun hc162 => ?_) (fun hc162 => ?_)
        ·
         have hc162b := hc162
         try simp only [decide_eq_true_eq, decide_eq_false_iff_not, Bool.not_eq_true', Bool.not_eq_false', Bool.and_eq_true, Bool.or_eq_true, Int.not_lt, Int.not_le, ne_eq, Decidable.not_not] at hc162
         refine wp_region_lit ?_
         refine l_q rfl rfl (q_moveP rfl) ?_
         refine l_q rfl rfl (q_fieldAddr (ft := 3) (o := 1) rfl (by kernel_rfl)) ?_
         refine l_q rfl rfl (q_load1 rfl (by kernel_rfl) (hS28.cell (i := 0) rfl rfl)) ?_
         refine l_e rfl (fun K hK => ?_)
         have hS164 := hS28.fr3; clear hS28
         have hS165 := hS164.fr3; clear hS164
         have hS166 := hS165.fr3; clear hS165
         refine e_call (by kernel_rfl) (lose_any k mb s t o L g hE hn (by omega) x26.n _ (St.begin (Γ := [_, _, _]) hS166)) rfl (after_M (Γ1 := [_, _, _]) hS166 (fun v163 G163 w163 hv163 hS163 => ?_))
         clear hS166
         obtain ⟨b163, rfl, rfl, hs163⟩ := hv163
         have hS167 : St _ _ [.blk k (.cells #[.map (some mb), .int .i64 (s : Int), .int .i64 (t : Int), .int .i64 (((o + ls (absN L) x26.n) : Nat) : Int)] 60), _, .fz g, _, _] _ := hS163; clear hS163
         have hn163 : NumOk (absN (mdel L x26.n)) s := by rw [absN_del]; exact hn.del _
         have hgl163 := ls_add (absN L) x26.n; rw [← absN_del, absN_len, absN_len] at hgl163
         refine hK _ _ ?_; clear hK K
         refine l_nil ?_
         refine hK37 _ _ ?_
         refine wp_seq_k (fun K168 hK168 => ?_)
         refine wp_region_lit ?_
         refine l_q rfl rfl (q_moveP rfl) ?_
         refine l_e rfl (fun K hK => ?_)
         refine e_call (by kernel_rfl) (told_ok k mb s t (o + ls (absN L) x26.n) _ (hS167.blk (i := 0) rfl)) rfl (after_R hS167 (fun v169 w169 hv169 hS169 => ?_))
         clear hS167
         obtain rfl := hv169
         refine hK _ _ ?_; clear hK K
         refine l_q rfl rfl (q_move rfl) ?_
         refine l_q rfl rfl (q_extract rfl rfl) ?_
         refine l_q rfl rfl (q_extract rfl rfl) ?_
         refine l_q rfl rfl (q_extract rfl rfl) ?_
         refine l_q rfl rfl (q_assignI rfl) ?_
         refine l_q rfl rfl (q_assignI rfl) ?_
         refine l_q rfl rfl (q_assignI rfl) ?_
         refine l_nil ?_
         refine hK168 _ _ ?_
         refine wp_seq_k (fun K170 hK170 => ?_)
         refine wp_region_lit ?_
         refine l_q rfl rfl (q_moveI rfl) ?_
         refine l_q rfl rfl (q_moveI rfl) ?_
         refine l_q rfl rfl (q_neq rfl rfl) ?_
         refine l_q rfl rfl (q_moveB rfl) ?_
         refine g_splitL (t := 138) rfl (fun hg171 => ?_) (fun hg171 => ?_)
         ·
          have hg171b := hg171
          try simp only [decide_eq_true_eq, decide_eq_false_iff_not, Bool.not_eq_true', Bool.not_eq_false', Bool.and_eq_true, Bool.or_eq_true, Int.not_lt, Int.not_le, ne_eq, Decidable.not_not] at hg171
          exfalso; first | omega | exact hg171 trivial
         ·
          have hg171b := hg171
          try simp only [decide_eq_true_eq, decide_eq_false_iff_not, Bool.not_eq_true', Bool.not_eq_false', Bool.and_eq_true, Bool.or_eq_true, Int.not_lt, Int.not_le, ne_eq, Decidable.not_not] at hg171
          refine l_on rfl rfl hg171b ?_
          refine l_q rfl rfl (q_moveI rfl) ?_
          refine l_on rfl rfl hg171b ?_
          refine l_q rfl rfl (q_moveI rfl) ?_
          refine l_on rfl rfl hg171b ?_
          refine l_q rfl rfl (q_moveI rfl) ?_
          refine l_on rfl rfl hg171b ?_
          refine l_q rfl rfl (q_addx rfl rfl (by first | decide | omega) (by first | decide | omega)) ?_
          refine l_on rfl rfl hg171b ?_
          refine l_q rfl rfl (q_moveP rfl) ?_
          refine l_on rfl rfl hg171b ?_
          refine l_e rfl (fun K hK => ?_)
          have hlm172 : (List.map Prod.fst (mdel L x26.n)).length = (mdel L x26.n).length := List.length_map _
          refine e_call (by kernel_rfl) (nums_ok k mb s t (o + ls (absN L) x26.n) (mdel L x26.n) hn163 (by omega) (by omega) _ (hS169.blk (i := 0) rfl) (hS169.map (i := 1) rfl) ((EOk.del hE x26.n).mono (hS169.fz (i := 2) rfl))) rfl (after_N hS169 (fun v172 G172 w172 hv172 hS172 => ?_))
          clear hS169
          obtain ⟨ad172, cp172, rfl, rfl⟩ := hv172
          have hS173 : St _ _ [.ow 3 1 ad172 ((List.map Prod.fst (mdel L x26.n)).length) cp172 (iv (List.map Prod.fst (mdel L x26.n))), _, _, .fz g, _, _] _ := hS172; clear hS172
          refine hK _ _ ?_; clear hK K
          refine l_on rfl rfl hg171b ?_
          refine l_q rfl rfl (q_lenSl (e := 3) rfl (by kernel_rfl)) ?_
          refine l_on rfl rfl hg171b ?_
          refine l_q rfl rfl (q_addx rfl rfl (by first | decide | omega) (by first | decide | omega)) ?_
          refine l_on rfl rfl hg171b ?_
          refine l_q rfl rfl (q_neq rfl rfl) ?_
          refine l_q rfl rfl (q_pickF rfl hg171b rfl) ?_
          refine l_nil ?_
          refine hK170 _ _ ?_
          refine c_cond rfl (fun hc174 => ?_) (fun hc174 => ?_)
          ·
           have hc174b := hc174
           try simp only [decide_eq_true_eq, decide_eq_false_iff_not, Bool.not_eq_true', Bool.not_eq_false', Bool.and_eq_true, Bool.or_eq_true, Int.not_lt, Int.not_le, ne_eq, Decidable.not_not] at hc174
           exfalso; first | omega | exact hc174 trivial
          ·
           have hc174b := hc174
           try simp only [decide_eq_true_eq, decide_eq_false_iff_not, Bool.not_eq_true', Bool.not_eq_false', Bool.and_eq_true, Bool.or_eq_true, Int.not_lt, Int.not_le, ne_eq, Decidable.not_not] at hc174
           refine wp_skip ?_
           refine hK24 _ _ ?_
           refine wp_region_lit ?_
           refine l_q rfl rfl (q_moveI rfl) ?_
           refine l_q rfl rfl (q_addx rfl rfl (by first | decide | omega) (by first | decide | omega)) ?_
           refine l_q rfl rfl (q_assignI rfl) ?_
           refine l_nil ?_
           have hS175 := hS173.fr5; clear hS173
           have hS176 := hS175.fr4; clear hS175
           have hS177 := hS176.fr4; clear hS176
           have hS178 := hS177.fr4; clear hS177
           have hS179 : St _ _ [_, _, .fz g, _] _ := hS178.only 4; clear hS178
           refine hK19 _ _ (came (⟨(i + 1), s, t, (o + ls (absN L) x26.n), (mdel L x26.n), g, sn, sad, scp⟩) (by repeat' (first | exact Agree.refl _ _ | refine Agree.up ?_ rfl | refine Agree.hav2 ?_ rfl | refine Agree.ups2 ?_ rfl)) (by repeat' (first | exact trivial | refine ⟨by first | rfl | exact int_succ _ | assumption, ?_⟩)) ?_)
           exact ⟨⟨hS179, (by show i + 1 ≤ 80; omega), (by show s ≤ i + 1; omega), (by show s = t + (o + ls (absN L) x26.n) + List.length (mdel L x26.n); omega), (EOk.del hE x26.n), hn163, (hc.del _), hsn, (by show List.length sn ≤ i + 1; first | omega | (simp only [List.length_append, List.length_cons, List.length_nil]; omega))⟩, by (show 80 - (i + 1) < 80 - i); omega⟩
        ·
         have hc162b := hc162
         try simp only [decide_eq_true_eq, decide_eq_false_iff_not, Bool.not_eq_true', Bool.not_eq_false', Bool.and_eq_true, Bool.or_eq_true, Int.not_lt, Int.not_le, ne_eq, Decidable.not_not] at hc162
         refine wp_skip ?_
         refine hK37 _ _ ?_
         refine wp_seq_k (fun K180 hK180 => ?_)
         refine wp_region_lit ?_
         refine l_q rfl rfl (q_moveP rfl) ?_
         refine l_e rfl (fun K hK => ?_)
         refine e_call (by kernel_rfl) (told_ok k mb s t o _ (hS28.blk (i := 1) rfl)) rfl (after_R hS28 (fun v181 w181 hv181 hS181 => ?_))
         clear hS28
         obtain rfl := hv181
         refine hK _ _ ?_; clear hK K
         refine l_q rfl rfl (q_move rfl) ?_
         refine l_q rfl rfl (q_extract rfl rfl) ?_
         refine l_q rfl rfl (q_extract rfl rfl) ?_
         refine l_q rfl rfl (q_extract rfl rfl) ?_
         refine l_q rfl rfl (q_assignI rfl) ?_
         refine l_q rfl rfl (q_assignI rfl) ?_
         refine l_q rfl rfl (q_assignI rfl) ?_
         refine l_nil ?_
         refine hK180 _ _ ?_
         refine wp_seq_k (fun K182 hK182 => ?_)
         refine wp_region_lit ?_
         refine l_q rfl rfl (q_moveI rfl) ?_
         refine l_q rfl rfl (q_moveI rfl) ?_
         refine l_q rfl rfl (q_neq rfl rfl) ?_
         refine l_q rfl rfl (q_moveB rfl) ?_
         refine g_splitL (t := 138) rfl (fun hg183 => ?_) (fun hg183 => ?_)
         ·
          have hg183b := hg183
          try simp only [decide_eq_true_eq, decide_eq_false_iff_not, Bool.not_eq_true', Bool.not_eq_false', Bool.and_eq_true, Bool.or_eq_true, Int.not_lt, Int.not_le, ne_eq, Decidable.not_not] at hg183
          exfalso; first | omega | exact hg183 trivial
         ·
          have hg183b := hg183
          try simp only [decide_eq_true_eq, decide_eq_false_iff_not, Bool.not_eq_true', Bool.not_eq_false', Bool.and_eq_true, Bool.or_eq_true, Int.not_lt, Int.not_le, ne_eq, Decidable.not_not] at hg183
          refine l_on rfl rfl hg183b ?_
          refine l_q rfl rfl (q_moveI rfl) ?_
          refine l_on rfl rfl hg183b ?_
          refine l_q rfl rfl (q_moveI rfl) ?_
          refine l_on rfl rfl hg183b ?_
          refine l_q rfl rfl (q_moveI rfl) ?_
          refine l_on rfl rfl hg183b ?_
          refine l_q rfl rfl (q_addx rfl rfl (by first | decide | omega) (by first | decide | omega)) ?_
          refine l_on rfl rfl hg183b ?_
          refine l_q rfl rfl (q_moveP rfl) ?_
          refine l_on rfl rfl hg183b ?_
          refine l_e rfl (fun K hK => ?_)
          have hlm184 : (List.map Prod.fst L).length = L.length := List.length_map _
          refine e_call (by kernel_rfl) (nums_ok k mb s t o L hn (by omega) (by omega) _ (hS181.blk (i := 1) rfl) (hS181.map (i := 2) rfl) (hE.mono (hS181.fz (i := 3) rfl))) rfl (after_N hS181 (fun v184 G184 w184 hv184 hS184 => ?_))
          clear hS181
          obtain ⟨ad184, cp184, rfl, rfl⟩ := hv184
          have hS185 : St _ _ [.ow 3 1 ad184 ((List.map Prod.fst L).length) cp184 (iv (List.map Prod.fst L)), _, _, _, .fz g, _] _ := hS184; clear hS184
          refine hK _ _ ?_; clear hK K
          refine l_on rfl rfl hg183b ?_
          refine l_q rfl rfl (q_lenSl (e := 3) rfl (by kernel_rfl)) ?_
          refine l_on rfl rfl hg183b ?_
          refine l_q rfl rfl (q_addx rfl rfl (by first | decide | omega) (by first | decide | omega)) ?_
          refine l_on rfl rfl hg183b ?_
          refine l_q rfl rfl (q_neq rfl rfl) ?_
          refine l_q rfl rfl (q_pickF rfl hg183b rfl) ?_
          refine l_nil ?_
          refine hK182 _ _ ?_
          refine c_cond rfl (fun hc186 => ?_) (fun hc186 => ?_)
          ·
           have hc186b := hc186
           try simp only [decide_eq_true_eq, decide_eq_false_iff_not, Bool.not_eq_true', Bool.not_eq_false', Bool.and_eq_true, Bool.or_eq_true, Int.not_lt, Int.not_le, ne_eq, Decidable.not_not] at hc186
           exfalso; first | omega | exact hc186 trivial
          ·
           have hc186b := hc186
           try simp only [decide_eq_true_eq, decide_eq_false_iff_not, Bool.not_eq_true', Bool.not_eq_false', Bool.and_eq_true, Bool.or_eq_true, Int.not_lt, Int.not_le, ne_eq, Decidable.not_not] at hc186
           refine wp_skip ?_
           refine hK24 _ _ ?_
           refine wp_region_lit ?_
           refine l_q rfl rfl (q_moveI rfl) ?_
           refine l_q rfl rfl (q_addx rfl rfl (by first | decide | omega) (by first | decide | omega)) ?_
           refine l_q rfl rfl (q_assignI rfl) ?_
           refine l_nil ?_
           have hS187 := hS185.fr5; clear hS185
           have hS188 := hS187.fr5; clear hS187
           have hS189 := hS188.fr5; clear hS188
           have hS190 := hS189.fr5; clear hS189
           have hS191 : St _ _ [_, _, .fz g, _] _ := hS190.only 4; clear hS190
           refine hK19 _ _ (came (⟨(i + 1), s, t, o, L, g, sn, sad, scp⟩) (by repeat' (first | exact Agree.refl _ _ | refine Agree.up ?_ rfl | refine Agree.hav2 ?_ rfl | refine Agree.ups2 ?_ rfl)) (by repeat' (first | exact trivial | refine ⟨by first | rfl | exact int_succ _ | assumption, ?_⟩)) ?_)
           exact ⟨⟨hS191, (by show i + 1 ≤ 80; omega), (by show s ≤ i + 1; omega), (by show s = t + o + List.length L; omega), hE, hn, hc, hsn, (by show List.length sn ≤ i + 1; first | omega | (simp only [List.length_append, List.length_cons, List.length_nil]; omega))⟩, by (show 80 - (i + 1) < 80 - i); omega⟩
   ·
    have hc23b := hc23
    try simp only [decide_eq_true_eq, decide_eq_false_iff_not, Bool.not_eq_true', Bool.not_eq_false', Bool.and_eq_true, Bool.or_eq_true, Int.not_lt, Int.not_le, ne_eq, Decidable.not_not] at hc23
    refine wp_exit ?_
    refine hK13 _ _ ?_
    refine wp_seq_k (fun K192 hK192 => ?_)
    refine wp_region_lit ?_
    refine l_e rfl (fun K hK => ?_)
    refine e_call (by kernel_rfl) (alive12_ok _) rfl (after_R hS19 (fun v193 w193 hv193 hS193 => ?_))
    clear hS19
    obtain rfl := hv193
    refine hK _ _ ?_; clear hK K
    refine l_q rfl rfl (q_assignB rfl) ?_
    refine l_nil ?_
    refine hK192 _ _ ?_
    refine wp_ret ?_
    refine c_ret1 rfl rfl ?_
    first | exact ⟨_, rfl, rfl, hS193.drop⟩ | exact ⟨_, rfl, congrArg Value.bool (decide_eq_true (by omega)), hS193.drop⟩
  ·
   have hg22b := hg22
   try simp only [decide_eq_true_eq, decide_eq_false_iff_not, Bool.not_eq_true', Bool.not_eq_false', Bool.and_eq_true, Bool.or_eq_true, Int.not_lt, Int.not_le, ne_eq, Decidable.not_not] at hg22
   refine l_off rfl rfl rfl hg22b ?_
   refine l_off rfl rfl rfl hg22b ?_
   refine l_q rfl rfl (q_pickF rfl hg22b rfl) ?_
   refine l_nil ?_
   refine hK21 _ _ ?_
   refine c_condF rfl rfl ?_
   refine wp_exit ?_
   refine hK13 _ _ ?_
   refine wp_seq_k (fun K195 hK195 => ?_)
   refine wp_region_lit ?_
   refine l_e rfl (fun K hK => ?_)
   refine e_call (by kernel_rfl) (alive12_ok _) rfl (after_R hS19 (fun v196 w196 hv196 hS196 => ?_))
   clear hS19
   obtain rfl := hv196
   refine hK _ _ ?_; clear hK K
   refine l_q rfl rfl (q_assignB rfl) ?_
   refine l_nil ?_
   refine hK195 _ _ ?_
   refine wp_ret ?_
   refine c_ret1 rfl rfl ?_
   first | exact ⟨_, rfl, rfl, hS196.drop⟩ | exact ⟨_, rfl, congrArg Value.bool (decide_eq_true (by omega)), hS196.drop⟩

end Go.Proofs.Ytlplhlncdfhhoaa
