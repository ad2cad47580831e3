/- NetOnce, NetFull. -/
import Derived.Test.YtlplhlncdfhhoaaEi
set_option linter.unusedVariables false
set_option linter.unusedSimpArgs false
namespace Go.Proofs.Ytlplhlncdfhhoaa
open Go.RowKit
theorem snd_111 {A A' : List (Int × Lr)} {s s' : Nat} {l : Lr} {a b : Int} (h : snd A s l = ((a, b), A', s')) (hb : ¬b = 0) (hf : A.length < 1024) : b = 111 := by
  rcases snd_or A s l with ⟨e, _⟩ | ⟨e, _, h3⟩ | ⟨e, _⟩ <;> rw [e] at h <;> injection h with h2 h3' <;> injection h2 with h4 h5 <;> omega
theorem no_del (L : List (Int × Ent)) (n : Int) : ∀ q ∈ absN (mdel L n), q.1 ≠ n := fun q hq => mdel_ne (by rw [absN_del] at hq; exact hq)
theorem no_more {L : List (Int × Ent)} {n m : Int} (h : ∀ q ∈ absN L, q.1 ≠ n) : ∀ q ∈ absN (mdel L m), q.1 ≠ n := fun q hq => h q (by rw [absN_del] at hq; exact (List.mem_filter.1 hq).1)
theorem mem_del {L : List (Int × Ent)} {n m : Int} {l : Lr} (h : (n, l) ∈ absN L) (hnm : n ≠ m) : (n, l) ∈ absN (mdel L m) := by
  rw [absN_del]; exact List.mem_filter.2 ⟨h, by simpa using hnm⟩
theorem same_self {a b : Lr} (h : a = b) : sameL a b = true := by subst h; exact sameL_rfl _
theorem tmod_rng {z : Int} (h : 0 ≤ z) : 0 ≤ z.tmod 1024 ∧ z.tmod 1024 < 1024 := by rw [Int.tmod_eq_emod_of_nonneg h]; omega
/-- The same letter, so many times. -/
def allL (l : Lr) (i : Nat) : List (Int × Lr) := (List.range i).map fun (j : Nat) => (((j : Nat) : Int), l)
theorem allL_succ (l : Lr) (i : Nat) : allL l (i + 1) = allL l i ++ [((i : Int), l)] := by unfold allL; rw [List.range_succ, List.map_append]; rfl
theorem allL_mem {l : Lr} {i : Nat} {n : Int} (h0 : 0 ≤ n) (h : n < (i : Int)) : (n, l) ∈ allL l i := List.mem_map.2 ⟨n.toNat, List.mem_range.2 (by omega), by rw [Int.toNat_of_nonneg h0]⟩
theorem allL_len (l : Lr) (i : Nat) : (allL l i).length = i := by unfold allL; rw [List.length_map, List.length_range]
attribute [local irreducible] Oper.wp Sem.run Code.wp wpList wpAnyO callFunc execOp Calls
attribute [local irreducible] toU short rencs renc rowE encRow rightB zig unzig decRw rightL risB lastN bitsOf nodesTo encL encLE sameL snd numsW sameI toOf badT tkv ls twN

set_option maxRecDepth 100000 in
theorem netOnce_ok (l : Lr) (an : Option Addr) (cn : Nat) (bb : Bool) (w : World) (hG : SlG (hw w) an (iv l.nd)) : Calls Try.prog 4 #[.agg #[.int .i64 l.k, .int .i64 l.f, .int .i64 l.t, .int .i64 l.x, .slice an l.nd.length cn], .bool bb] w (PostR w fun v => v = .bool true) := by
 have hS := St.start w
 refine c_enter Try.func4 rfl rfl rfl ?_
 refine wp_seq_k (fun K1 hK1 => ?_)
 refine wp_region_lit ?_
 refine l_e rfl (fun K hK => ?_)
 refine e_boxA hS rfl (fun b2 w2 (hS2 : St _ _ [.blk b2 (.cells #[.int .i64 l.k, .int .i64 l.f, .int .i64 l.t, .int .i64 l.x, .slice an l.nd.length cn] 25)] _) => ?_)
 clear hS
 refine hK _ _ ?_; clear hK K
 refine l_q rfl rfl (q_assignB rfl) ?_
 refine l_nil ?_
 refine hK1 _ _ ?_
 refine wp_seq_k (fun K3 hK3 => ?_)
 refine wp_region_lit ?_
 refine l_e rfl (fun K hK => ?_)
 refine e_call (by kernel_rfl) (nnew_ok _) rfl (after_N hS2 (fun v4 G4 w4 hv4 hS4 => ?_))
 clear hS2
 obtain ⟨k, mb, rfl, rfl⟩ := hv4
 have hS5 : St _ _ [.blk k (.cells #[.map (some mb), .int .i64 ((0 : Nat) : Int), .int .i64 ((0 : Nat) : Int), .int .i64 ((0 : Nat) : Int)] 60), .mp (.int .i64) mb (List.map nc []), _] _ := hS4; clear hS4
 have hS6 := hS5.fz0; clear hS5
 have hS7 := hS6.fr2; clear hS6
 have hS8 := hS7.fr2; clear hS7
 obtain ⟨L0, hL0⟩ : ∃ L : List (Int × Ent), L = [] := ⟨[], rfl⟩
 rw [← hL0] at hS8
 have hE0 : EOk (fun _ => none) L0 := by rw [hL0]; exact EOk.nil
 have hn0 : NumOk (absN L0) 0 := by rw [hL0]; exact NumOk.nil 0
 have hl0 : L0.length = 0 := by rw [hL0]; rfl
 refine hK _ _ ?_; clear hK K
 refine l_q rfl rfl (q_assignP rfl) ?_
 refine l_nil ?_
 refine hK3 _ _ ?_
 refine wp_seq_k (fun K9 hK9 => ?_)
 refine wp_seq_k (fun K10 hK10 => ?_)
 refine wp_region_lit ?_
 refine l_q rfl rfl (q_moveP rfl) ?_
 refine l_q rfl rfl (q_peq rfl (by kernel_rfl)) ?_
 refine l_q rfl rfl (q_moveB rfl) ?_
 refine l_on rfl rfl rfl ?_
 refine l_q rfl rfl (q_fieldAddr (ft := 23) (o := 4) rfl (by kernel_rfl)) ?_
 refine l_on rfl rfl rfl ?_
 refine l_q rfl rfl (q_load1 rfl (by kernel_rfl) (hS8.cell (i := 3) rfl rfl)) ?_
 refine l_on rfl rfl rfl ?_
 refine l_q rfl rfl (q_lenSl (e := 3) rfl (by kernel_rfl)) ?_
 refine l_on rfl rfl rfl ?_
 refine l_q rfl rfl (q_gtr rfl rfl) ?_
 refine l_q rfl rfl (q_pickF rfl rfl rfl) ?_
 refine l_nil ?_
 refine hK10 _ _ ?_
 refine c_cond rfl (fun hc11 => ?_) (fun hc11 => ?_)
 ·
  have hc11b := hc11
  try simp only [decide_eq_true_eq, decide_eq_false_iff_not, Bool.not_eq_true', Bool.not_eq_false', Bool.and_eq_true, Bool.or_eq_true, Int.not_lt, Int.not_le, ne_eq, Decidable.not_not] at hc11
  refine wp_seq_k (fun K12 hK12 => ?_)
  refine wp_region_lit ?_
  refine l_q rfl rfl (q_moveP rfl) ?_
  refine l_q rfl rfl (q_pne rfl (by kernel_rfl)) ?_
  refine l_q rfl rfl (q_assignB rfl) ?_
  refine l_nil ?_
  refine hK12 _ _ ?_
  refine wp_ret ?_
  refine c_ret1 rfl rfl ?_
  first | exact ⟨_, rfl, rfl, hS8.drop⟩ | exact ⟨_, rfl, congrArg Value.bool (decide_eq_true (by omega)), hS8.drop⟩
 ·
  have hc11b := hc11
  try simp only [decide_eq_true_eq, decide_eq_false_iff_not, Bool.not_eq_true', Bool.not_eq_false', Bool.and_eq_true, Bool.or_eq_true, Int.not_lt, Int.not_le, ne_eq, Decidable.not_not] at hc11
  refine wp_skip ?_
  refine hK9 _ _ ?_
  refine wp_seq_k (fun K13 hK13 => ?_)
  refine wp_region_lit ?_
  refine l_q rfl rfl (q_moveP rfl) ?_
  refine l_q rfl rfl (q_loadA (m := 5) rfl (by kernel_rfl) (by kernel_rfl) (hS8.blk (i := 3) rfl) rfl rfl) ?_
  refine l_e rfl (fun K hK => ?_)
  refine e_call (by kernel_rfl) (send_any k mb 0 0 0 L0 (fun _ => none) hE0 hn0 (by omega) l l.nd.length (by first | rfl | omega) (by omega) an cn _ _ (St.rogB (Γ1 := [_, _, _]) hS8) hG (St.begin (Γ := [_, _, _]) hS8)) rfl (after_M (Γ1 := [_, _, _]) hS8 (fun v14 G14 w14 hv14 hS14 => ?_))
  clear hS8
  obtain ⟨a14, b14, L14, s14, g14, rfl, rfl, hle14, hE14, hs14⟩ := hv14
  have hS15 : St _ _ [.blk k (.cells #[.map (some mb), .int .i64 (s14 : Int), .int .i64 ((0 : Nat) : Int), .int .i64 ((0 : Nat) : Int)] 60), .mp (.int .i64) mb (List.map nc L14), .fz g14, _] _ := hS14; clear hS14
  have hn14 := hn0.snd' hs14
  have hgr14 := snd_grow hs14
  have hgl14 := hgr14.2.1; have hgs14 := hgr14.1; rw [absN_len, absN_len] at hgl14
  refine hK _ _ ?_; clear hK K
  refine l_q rfl rfl (q_move rfl) ?_
  refine l_q rfl rfl (q_extract rfl rfl) ?_
  refine l_q rfl rfl (q_extract rfl rfl) ?_
  refine l_q rfl rfl (q_assignI rfl) ?_
  refine l_q rfl rfl (q_assignI rfl) ?_
  refine l_nil ?_
  refine hK13 _ _ ?_
  refine wp_seq_k (fun K16 hK16 => ?_)
  refine wp_seq_k (fun K17 hK17 => ?_)
  refine wp_region_lit ?_
  refine l_q rfl rfl (q_moveI rfl) ?_
  refine l_q rfl rfl (q_neq rfl rfl) ?_
  refine l_nil ?_
  refine hK17 _ _ ?_
  refine c_cond rfl (fun hc18 => ?_) (fun hc18 => ?_)
  ·
   have hc18b := hc18
   try simp only [decide_eq_true_eq, decide_eq_false_iff_not, Bool.not_eq_true', Bool.not_eq_false', Bool.and_eq_true, Bool.or_eq_true, Int.not_lt, Int.not_le, ne_eq, Decidable.not_not] at hc18
   have h111 := snd_111 hs14 hc18 (by rw [absN_len]; omega)
   have hnon := (snd_non hs14 hc18).2
   refine wp_seq_k (fun K19 hK19 => ?_)
   refine wp_region_lit ?_
   refine l_e rfl (fun K hK => ?_)
   refine e_call (by kernel_rfl) (alive12_ok _) rfl (after_R hS15 (fun v20 w20 hv20 hS20 => ?_))
   clear hS15
   obtain rfl := hv20
   refine hK _ _ ?_; clear hK K
   refine l_q rfl rfl (q_moveB rfl) ?_
   refine l_on rfl rfl rfl ?_
   refine l_q rfl rfl (q_moveI rfl) ?_
   refine l_on rfl rfl rfl ?_
   refine l_q rfl rfl (q_eql rfl rfl) ?_
   refine l_q rfl rfl (q_pickT rfl rfl rfl) ?_
   refine l_q rfl rfl (q_moveB rfl) ?_
   refine g_splitL (t := 44) rfl (fun hg21 => ?_) (fun hg21 => ?_)
   ·
    have hg21b := hg21
    try simp only [decide_eq_true_eq, decide_eq_false_iff_not, Bool.not_eq_true', Bool.not_eq_false', Bool.and_eq_true, Bool.or_eq_true, Int.not_lt, Int.not_le, ne_eq, Decidable.not_not] at hg21
    refine l_on rfl rfl hg21b ?_
    refine l_q rfl rfl (q_moveP rfl) ?_
    refine l_on rfl rfl hg21b ?_
    refine l_e rfl (fun K hK => ?_)
    have hlm22 : (List.map Prod.fst L14).length = L14.length := List.length_map _
    refine e_call (by kernel_rfl) (nums_ok k mb s14 0 0 L14 hn14 (by omega) (by omega) _ (hS20.blk (i := 0) rfl) (hS20.map (i := 1) rfl) (hE14.mono (hS20.fz (i := 2) rfl))) rfl (after_N hS20 (fun v22 G22 w22 hv22 hS22 => ?_))
    clear hS20
    obtain ⟨ad22, cp22, rfl, rfl⟩ := hv22
    have hS23 : St _ _ [.ow 3 1 ad22 ((List.map Prod.fst L14).length) cp22 (iv (List.map Prod.fst L14)), _, _, .fz g14, _] _ := hS22; clear hS22
    refine hK _ _ ?_; clear hK K
    refine l_on rfl rfl hg21b ?_
    refine l_q rfl rfl (q_lenSl (e := 3) rfl (by kernel_rfl)) ?_
    refine l_on rfl rfl hg21b ?_
    refine l_q rfl rfl (q_eql rfl rfl) ?_
    refine l_q rfl rfl (q_pickT rfl hg21b rfl) ?_
    refine l_q rfl rfl (q_assignB rfl) ?_
    refine l_nil ?_
    refine hK19 _ _ ?_
    refine wp_ret ?_
    refine c_ret1 rfl rfl ?_
    first | exact ⟨_, rfl, rfl, hS23.drop⟩ | exact ⟨_, rfl, congrArg Value.bool (decide_eq_true (by omega)), hS23.drop⟩
   ·
    have hg21b := hg21
    try simp only [decide_eq_true_eq, decide_eq_false_iff_not, Bool.not_eq_true', Bool.not_eq_false', Bool.and_eq_true, Bool.or_eq_true, Int.not_lt, Int.not_le, ne_eq, Decidable.not_not] at hg21
    exfalso; omega
  ·
   have hc18b := hc18
   try simp only [decide_eq_true_eq, decide_eq_false_iff_not, Bool.not_eq_true', Bool.not_eq_false', Bool.and_eq_true, Bool.or_eq_true, Int.not_lt, Int.not_le, ne_eq, Decidable.not_not] at hc18
   obtain ⟨hy1, hy2, hy3, hyR, _⟩ := snd_yes hs14 hc18
   have hm1 : (a14, l) ∈ absN L14 := by rw [hy1, hy3]; exact List.mem_append_right _ (.head _)
   refine wp_skip ?_
   refine hK16 _ _ ?_
   refine wp_seq_k (fun K24 hK24 => ?_)
   refine wp_region_lit ?_
   refine l_q rfl rfl (q_moveP rfl) ?_
   refine l_q rfl rfl (q_moveI rfl) ?_
   refine l_e rfl (fun K hK => ?_)
   refine e_call (by kernel_rfl) (twice_any k mb s14 0 0 L14 g14 hE14 hn14 (by omega) a14 _ (St.begin (Γ := [_, _, _]) hS15)) rfl (after_M (Γ1 := [_, _, _]) hS15 (fun v25 G25 w25 hv25 hS25 => ?_))
   clear hS15
   obtain ⟨a25, b25, L25, s25, g25, rfl, rfl, hle25, hE25, hs25⟩ := hv25
   have hS26 : St _ _ [.blk k (.cells #[.map (some mb), .int .i64 (s25 : Int), .int .i64 ((0 : Nat) : Int), .int .i64 ((0 : Nat) : Int)] 60), .mp (.int .i64) mb (List.map nc L25), .fz g25, _] _ := hS25; clear hS25
   have hn25 := (tw_grow hn14 hs25).2.2
   have hgr25 := tw_grow hn14 hs25
   have hgl25 := hgr25.2.1; have hgs25 := hgr25.1; rw [absN_len, absN_len] at hgl25
   obtain ⟨ha25, hb25, hA25, hx25⟩ := tw_val hs25 ((hn14.twN hm1).trans (snd_ok hyR (by rw [absN_len]; omega)))
   have hm2 : (a14, l) ∈ absN L25 := by rw [hA25]; exact List.mem_append_left _ hm1
   have hm3 : (a25, l) ∈ absN L25 := by rw [ha25, hA25]; exact List.mem_append_right _ (.head _)
   have hne : a25 ≠ a14 := by omega
   refine hK _ _ ?_; clear hK K
   refine l_q rfl rfl (q_move rfl) ?_
   refine l_q rfl rfl (q_extract rfl rfl) ?_
   refine l_q rfl rfl (q_extract rfl rfl) ?_
   refine l_q rfl rfl (q_assignI rfl) ?_
   refine l_q rfl rfl (q_assignI rfl) ?_
   refine l_nil ?_
   refine hK24 _ _ ?_
   refine wp_seq_k (fun K27 hK27 => ?_)
   refine wp_seq_k (fun K28 hK28 => ?_)
   refine wp_region_lit ?_
   refine l_q rfl rfl (q_moveB rfl) ?_
   refine l_nil ?_
   refine hK28 _ _ ?_
   refine c_cond rfl (fun hc29 => ?_) (fun hc29 => ?_)
   ·
    have hc29b := hc29
    try simp only [decide_eq_true_eq, decide_eq_false_iff_not, Bool.not_eq_true', Bool.not_eq_false', Bool.and_eq_true, Bool.or_eq_true, Int.not_lt, Int.not_le, ne_eq, Decidable.not_not] at hc29
    refine wp_region_lit ?_
    refine l_q rfl rfl (q_moveP rfl) ?_
    refine l_q rfl rfl (q_moveI rfl) ?_
    refine l_e rfl (fun K hK => ?_)
    refine e_call (by kernel_rfl) (lose_any k mb s25 0 0 L25 g25 hE25 hn25 (by omega) a14 _ (St.begin (Γ := [_, _, _]) hS26)) rfl (after_M (Γ1 := [_, _, _]) hS26 (fun v30 G30 w30 hv30 hS30 => ?_))
    clear hS26
    obtain ⟨b30, rfl, rfl, hs30⟩ := hv30
    have hS31 : St _ _ [.blk k (.cells #[.map (some mb), .int .i64 (s25 : Int), .int .i64 ((0 : Nat) : Int), .int .i64 (((0 + ls (absN L25) a14) : Nat) : Int)] 60), .mp (.int .i64) mb (List.map nc (mdel L25 a14)), .fz g25, _] _ := hS30; clear hS30
    have hn30 : NumOk (absN (mdel L25 a14)) s25 := by rw [absN_del]; exact hn25.del _
    have hgl30 := ls_add (absN L25) a14; rw [← absN_del, absN_len, absN_len] at hgl30
    have hb30 : b30 = 0 := hs30.symm.trans (by rw [hn25.tkv hm2])
    have hl130 := hn25.ls hm2
    have hno := no_del L25 a14
    have hm4 := mem_del (m := a14) hm3 hne
    have hb0 := hb30
    refine hK _ _ ?_; clear hK K
    refine l_q rfl rfl (q_assignI rfl) ?_
    refine l_nil ?_
    refine hK27 _ _ ?_
    refine wp_seq_k (fun K32 hK32 => ?_)
    refine wp_region_lit ?_
    refine l_q rfl rfl (q_moveP rfl) ?_
    refine l_q rfl rfl (q_moveI rfl) ?_
    refine l_e rfl (fun K hK => ?_)
    refine e_call (by kernel_rfl) (take_any k mb s25 0 (0 + ls (absN L25) a14) (mdel L25 a14) g25 (EOk.del hE25 a14) hn30 (by omega) a14 _ (St.begin (Γ := [_, _, _]) hS31)) rfl (after_M (Γ1 := [_, _, _]) hS31 (fun v33 G33 w33 hv33 hS33 => ?_))
    clear hS31
    obtain ⟨l33, b33, an33, cn33, rfl, rfl, hs33⟩ := hv33
    have hS34 : St _ _ [.blk k (.cells #[.map (some mb), .int .i64 (s25 : Int), .int .i64 (((0 + ls (absN (mdel L25 a14)) a14) : Nat) : Int), .int .i64 (((0 + ls (absN L25) a14) : Nat) : Int)] 60), .mp (.int .i64) mb (List.map nc (mdel (mdel L25 a14) a14)), .fz g25, .ow 3 1 an33 l33.nd.length cn33 (iv l33.nd), _] _ := hS33; clear hS33
    have hn33 : NumOk (absN (mdel (mdel L25 a14) a14)) s25 := by rw [absN_del]; exact hn30.del _
    have hgl33 := ls_add (absN (mdel L25 a14)) a14; rw [← absN_del, absN_len, absN_len] at hgl33
    obtain ⟨hv33, hb33⟩ := tk_val hs33 (tkv_no hno)
    have hl133 := ls_no hno
    have hno2 := no_more (m := a14) hno
    have hm5 := mem_del (m := a14) hm4 hne
    refine hK _ _ ?_; clear hK K
    refine l_q rfl rfl (q_move rfl) ?_
    refine l_q rfl rfl (q_extract rfl rfl) ?_
    refine l_q rfl rfl (q_extract rfl rfl) ?_
    refine l_e rfl (fun K hK => ?_)
    refine e_alloc (zv := .agg #[.int .i64 0, .int .i64 0, .int .i64 0, .int .i64 0, .slice none 0 0]) hS34 (by kernel_rfl) (fun b35 w35 (hS35 : St _ _ [.blk b35 (.cells #[.int .i64 (0 : Int), .int .i64 (0 : Int), .int .i64 (0 : Int), .int .i64 (0 : Int), .slice none 0 0] 25), _, _, .fz g25, _, _] _) => ?_)
    clear hS34
    refine hK _ _ ?_; clear hK K
    refine l_e rfl (fun K hK => ?_)
    refine e_storeA hS35 rfl rfl (by kernel_rfl) (by repeat' (first | exact trivial | refine ⟨by first | rfl | assumption | exact one_if (by assumption), ?_⟩)) (i := 0) rfl rfl (fun w36 (hS36 : St _ _ [.blk b35 (.cells #[.int .i64 l33.k, .int .i64 l33.f, .int .i64 l33.t, .int .i64 l33.x, .slice an33 l33.nd.length cn33] 25), _, _, .fz g25, _, _] _) => ?_)
    clear hS35
    refine hK _ _ ?_; clear hK K
    refine l_q rfl rfl (q_assignI rfl) ?_
    refine l_nil ?_
    refine hK32 _ _ ?_
    refine wp_seq_k (fun K37 hK37 => ?_)
    refine wp_region_lit ?_
    refine l_q rfl rfl (q_moveP rfl) ?_
    refine l_q rfl rfl (q_moveI rfl) ?_
    refine l_e rfl (fun K hK => ?_)
    have hS39 := hS36.fr3; clear hS36
    have hS40 := hS39.fr3; clear hS39
    have hS41 := hS40.fr3; clear hS40
    refine e_call (by kernel_rfl) (twice_any k mb s25 (0 + ls (absN (mdel L25 a14)) a14) (0 + ls (absN L25) a14) (mdel (mdel L25 a14) a14) g25 (EOk.del (EOk.del hE25 a14) a14) hn33 (by omega) a14 _ (St.begin (Γ := [_, _, _]) hS41)) rfl (after_M (Γ1 := [_, _, _]) hS41 (fun v38 G38 w38 hv38 hS38 => ?_))
    clear hS41
    obtain ⟨a38, b38, L38, s38, g38, rfl, rfl, hle38, hE38, hs38⟩ := hv38
    have hS42 : St _ _ [.blk k (.cells #[.map (some mb), .int .i64 (s38 : Int), .int .i64 (((0 + ls (absN (mdel L25 a14)) a14) : Nat) : Int), .int .i64 (((0 + ls (absN L25) a14) : Nat) : Int)] 60), .mp (.int .i64) mb (List.map nc L38), .fz g38, _, _, _] _ := hS38; clear hS38
    have hn38 := (tw_grow hn33 hs38).2.2
    have hgr38 := tw_grow hn33 hs38
    have hgl38 := hgr38.2.1; have hgs38 := hgr38.1; rw [absN_len, absN_len] at hgl38
    obtain ⟨hv38, hb38, hA38, hx38⟩ := tw_val hs38 (twN_no hno2)
    have hno3 := hno2; rw [← hA38] at hno3
    have hm6 := hm5; rw [← hA38] at hm6
    refine hK _ _ ?_; clear hK K
    refine l_q rfl rfl (q_move rfl) ?_
    refine l_q rfl rfl (q_extract rfl rfl) ?_
    refine l_q rfl rfl (q_extract rfl rfl) ?_
    refine l_q rfl rfl (q_assignI rfl) ?_
    refine l_q rfl rfl (q_assignI rfl) ?_
    refine l_nil ?_
    refine hK37 _ _ ?_
    refine wp_seq_k (fun K43 hK43 => ?_)
    refine wp_region_lit ?_
    refine l_q rfl rfl (q_moveP rfl) ?_
    refine l_q rfl rfl (q_moveI rfl) ?_
    refine l_e rfl (fun K hK => ?_)
    refine e_call (by kernel_rfl) (look_any k mb s38 (0 + ls (absN (mdel L25 a14)) a14) (0 + ls (absN L25) a14) L38 hn38 a14 _ (hS42.blk (i := 0) rfl) (hS42.map (i := 1) rfl) (hE38.mono (hS42.fz (i := 2) rfl))) rfl (after_N hS42 (fun v44 G44 w44 hv44 hS44 => ?_))
    clear hS42
    obtain ⟨l44, b44, an44, cn44, rfl, rfl, hs44⟩ := hv44
    have hS45 : St _ _ [.ow 3 1 an44 l44.nd.length cn44 (iv l44.nd), _, _, .fz g38, _, _, _] _ := hS44; clear hS44
    obtain ⟨hv44, hb44⟩ := tk_val hs44 (tkv_no hno3)
    refine hK _ _ ?_; clear hK K
    refine l_q rfl rfl (q_move rfl) ?_
    refine l_q rfl rfl (q_extract rfl rfl) ?_
    refine l_q rfl rfl (q_extract rfl rfl) ?_
    refine l_e rfl (fun K hK => ?_)
    refine e_alloc (zv := .agg #[.int .i64 0, .int .i64 0, .int .i64 0, .int .i64 0, .slice none 0 0]) hS45 (by kernel_rfl) (fun b46 w46 (hS46 : St _ _ [.blk b46 (.cells #[.int .i64 (0 : Int), .int .i64 (0 : Int), .int .i64 (0 : Int), .int .i64 (0 : Int), .slice none 0 0] 25), _, _, _, .fz g38, _, _, _] _) => ?_)
    clear hS45
    refine hK _ _ ?_; clear hK K
    refine l_e rfl (fun K hK => ?_)
    refine e_storeA hS46 rfl rfl (by kernel_rfl) (by repeat' (first | exact trivial | refine ⟨by first | rfl | assumption | exact one_if (by assumption), ?_⟩)) (i := 0) rfl rfl (fun w47 (hS47 : St _ _ [.blk b46 (.cells #[.int .i64 l44.k, .int .i64 l44.f, .int .i64 l44.t, .int .i64 l44.x, .slice an44 l44.nd.length cn44] 25), _, _, _, .fz g38, _, _, _] _) => ?_)
    clear hS46
    refine hK _ _ ?_; clear hK K
    refine l_q rfl rfl (q_assignI rfl) ?_
    refine l_nil ?_
    refine hK43 _ _ ?_
    refine wp_seq_k (fun K48 hK48 => ?_)
    refine wp_region_lit ?_
    refine l_q rfl rfl (q_moveP rfl) ?_
    refine l_q rfl rfl (q_moveI rfl) ?_
    refine l_e rfl (fun K hK => ?_)
    have hS50 := hS47.fr4; clear hS47
    have hS51 := hS50.fr4; clear hS50
    have hS52 := hS51.fr4; clear hS51
    refine e_call (by kernel_rfl) (lose_any k mb s38 (0 + ls (absN (mdel L25 a14)) a14) (0 + ls (absN L25) a14) L38 g38 hE38 hn38 (by omega) a14 _ (St.begin (Γ := [_, _, _]) hS52)) rfl (after_M (Γ1 := [_, _, _]) hS52 (fun v49 G49 w49 hv49 hS49 => ?_))
    clear hS52
    obtain ⟨b49, rfl, rfl, hs49⟩ := hv49
    have hS53 : St _ _ [.blk k (.cells #[.map (some mb), .int .i64 (s38 : Int), .int .i64 (((0 + ls (absN (mdel L25 a14)) a14) : Nat) : Int), .int .i64 ((((0 + ls (absN L25) a14) + ls (absN L38) a14) : Nat) : Int)] 60), .mp (.int .i64) mb (List.map nc (mdel L38 a14)), .fz g38, _, _, _, _, _] _ := hS49; clear hS49
    have hn49 : NumOk (absN (mdel L38 a14)) s38 := by rw [absN_del]; exact hn38.del _
    have hgl49 := ls_add (absN L38) a14; rw [← absN_del, absN_len, absN_len] at hgl49
    have hb49 : b49 = 121 := hs49.symm.trans (by rw [tkv_no hno3])
    have hl149 := ls_no hno3
    have hm7 := mem_del (m := a14) hm6 hne
    refine hK _ _ ?_; clear hK K
    refine l_q rfl rfl (q_assignI rfl) ?_
    refine l_nil ?_
    refine hK48 _ _ ?_
    refine wp_seq_k (fun K54 hK54 => ?_)
    refine wp_region_lit ?_
    refine l_q rfl rfl (q_moveP rfl) ?_
    refine l_q rfl rfl (q_moveI rfl) ?_
    refine l_e rfl (fun K hK => ?_)
    refine e_call (by kernel_rfl) (take_any k mb s38 (0 + ls (absN (mdel L25 a14)) a14) ((0 + ls (absN L25) a14) + ls (absN L38) a14) (mdel L38 a14) g38 (EOk.del hE38 a14) hn49 (by omega) a25 _ (St.begin (Γ := [_, _, _]) hS53)) rfl (after_M (Γ1 := [_, _, _]) hS53 (fun v55 G55 w55 hv55 hS55 => ?_))
    clear hS53
    obtain ⟨l55, b55, an55, cn55, rfl, rfl, hs55⟩ := hv55
    have hS56 : St _ _ [.blk k (.cells #[.map (some mb), .int .i64 (s38 : Int), .int .i64 ((((0 + ls (absN (mdel L25 a14)) a14) + ls (absN (mdel L38 a14)) a25) : Nat) : Int), .int .i64 ((((0 + ls (absN L25) a14) + ls (absN L38) a14) : Nat) : Int)] 60), .mp (.int .i64) mb (List.map nc (mdel (mdel L38 a14) a25)), .fz g38, .ow 3 1 an55 l55.nd.length cn55 (iv l55.nd), _, _, _, _, _] _ := hS55; clear hS55
    have hn55 : NumOk (absN (mdel (mdel L38 a14) a25)) s38 := by rw [absN_del]; exact hn49.del _
    have hgl55 := ls_add (absN (mdel L38 a14)) a25; rw [← absN_del, absN_len, absN_len] at hgl55
    obtain ⟨hv55, hb55⟩ := tk_val hs55 (hn49.tkv hm7)
    have hl155 := hn49.ls hm7
    have hsm := same_self hv55
    have hln : l55.nd.length = l.nd.length := by rw [hv55]
    refine hK _ _ ?_; clear hK K
    refine l_q rfl rfl (q_move rfl) ?_
    refine l_q rfl rfl (q_extract rfl rfl) ?_
    refine l_q rfl rfl (q_extract rfl rfl) ?_
    refine l_e rfl (fun K hK => ?_)
    refine e_alloc (zv := .agg #[.int .i64 0, .int .i64 0, .int .i64 0, .int .i64 0, .slice none 0 0]) hS56 (by kernel_rfl) (fun b57 w57 (hS57 : St _ _ [.blk b57 (.cells #[.int .i64 (0 : Int), .int .i64 (0 : Int), .int .i64 (0 : Int), .int .i64 (0 : Int), .slice none 0 0] 25), _, _, .fz g38, _, _, _, _, _, _] _) => ?_)
    clear hS56
    refine hK _ _ ?_; clear hK K
    refine l_e rfl (fun K hK => ?_)
    refine e_storeA hS57 rfl rfl (by kernel_rfl) (by repeat' (first | exact trivial | refine ⟨by first | rfl | assumption | exact one_if (by assumption), ?_⟩)) (i := 0) rfl rfl (fun w58 (hS58 : St _ _ [.blk b57 (.cells #[.int .i64 l55.k, .int .i64 l55.f, .int .i64 l55.t, .int .i64 l55.x, .slice an55 l55.nd.length cn55] 25), _, _, .fz g38, _, _, _, _, _, _] _) => ?_)
    clear hS57
    refine hK _ _ ?_; clear hK K
    refine l_q rfl rfl (q_assignI rfl) ?_
    refine l_nil ?_
    refine hK54 _ _ ?_
    refine wp_seq_k (fun K59 hK59 => ?_)
    refine wp_region_lit ?_
    refine l_q rfl rfl (q_loadA (m := 5) rfl (by kernel_rfl) (by kernel_rfl) (hS58.blk (i := 0) rfl) rfl rfl) ?_
    refine l_q rfl rfl (q_loadA (m := 5) rfl (by kernel_rfl) (by kernel_rfl) (hS58.blk (i := 9) rfl) rfl rfl) ?_
    refine l_e rfl (fun K hK => ?_)
    refine e_call (by kernel_rfl) (lsame_ok l55 l l55.nd.length l.nd.length (by first | rfl | omega) (by first | rfl | omega) (by omega) (by omega) _ _ _ _ _ (hS58.owG (i := 4) rfl) (hG.mono hS58.base)) rfl (after_R hS58 (fun v60 w60 hv60 hS60 => ?_))
    clear hS58
    obtain rfl := hv60
    refine hK _ _ ?_; clear hK K
    refine l_q rfl rfl (q_assignB rfl) ?_
    refine l_nil ?_
    refine hK59 _ _ ?_
    refine wp_seq_k (fun K61 hK61 => ?_)
    refine wp_region_lit ?_
    refine l_e rfl (fun K hK => ?_)
    refine e_call (by kernel_rfl) (alive12_ok _) rfl (after_R hS60 (fun v62 w62 hv62 hS62 => ?_))
    clear hS60
    obtain rfl := hv62
    refine hK _ _ ?_; clear hK K
    refine l_q rfl rfl (q_moveB rfl) ?_
    refine l_on rfl rfl rfl ?_
    refine l_q rfl rfl (q_moveI rfl) ?_
    refine l_on rfl rfl rfl ?_
    refine l_q rfl rfl (q_eql rfl rfl) ?_
    refine l_q rfl rfl (q_pickT rfl rfl rfl) ?_
    refine l_q rfl rfl (q_moveB rfl) ?_
    refine g_splitL (t := 101) rfl (fun hg63 => ?_) (fun hg63 => ?_)
    ·
     have hg63b := hg63
     try simp only [decide_eq_true_eq, decide_eq_false_iff_not, Bool.not_eq_true', Bool.not_eq_false', Bool.and_eq_true, Bool.or_eq_true, Int.not_lt, Int.not_le, ne_eq, Decidable.not_not] at hg63
     refine l_on rfl rfl hg63b ?_
     refine l_q rfl rfl (q_moveI rfl) ?_
     refine l_on rfl rfl hg63b ?_
     refine l_q rfl rfl (q_eql rfl rfl) ?_
     refine l_q rfl rfl (q_pickT rfl hg63b rfl) ?_
     refine l_q rfl rfl (q_moveB rfl) ?_
     refine g_splitL (t := 105) rfl (fun hg64 => ?_) (fun hg64 => ?_)
     ·
      have hg64b := hg64
      try simp only [decide_eq_true_eq, decide_eq_false_iff_not, Bool.not_eq_true', Bool.not_eq_false', Bool.and_eq_true, Bool.or_eq_true, Int.not_lt, Int.not_le, ne_eq, Decidable.not_not] at hg64
      refine l_on rfl rfl hg64b ?_
      refine l_q rfl rfl (q_moveI rfl) ?_
      refine l_on rfl rfl hg64b ?_
      refine l_q rfl rfl (q_eql rfl rfl) ?_
      refine l_q rfl rfl (q_pickT rfl hg64b rfl) ?_
      refine l_q rfl rfl (q_moveB rfl) ?_
      refine g_splitL (t := 109) rfl (fun hg65 => ?_) (fun hg65 => ?_)
      ·
       have hg65b := hg65
       try simp only [decide_eq_true_eq, decide_eq_false_iff_not, Bool.not_eq_true', Bool.not_eq_false', Bool.and_eq_true, Bool.or_eq_true, Int.not_lt, Int.not_le, ne_eq, Decidable.not_not] at hg65
       refine l_on rfl rfl hg65b ?_
       refine l_q rfl rfl (q_moveI rfl) ?_
       refine l_on rfl rfl hg65b ?_
       refine l_q rfl rfl (q_eql rfl rfl) ?_
       refine l_q rfl rfl (q_pickT rfl hg65b rfl) ?_
       refine l_q rfl rfl (q_moveB rfl) ?_
       refine g_splitL (t := 113) rfl (fun hg66 => ?_) (fun hg66 => ?_)
       ·
        have hg66b := hg66
        try simp only [decide_eq_true_eq, decide_eq_false_iff_not, Bool.not_eq_true', Bool.not_eq_false', Bool.and_eq_true, Bool.or_eq_true, Int.not_lt, Int.not_le, ne_eq, Decidable.not_not] at hg66
        refine l_on rfl rfl hg66b ?_
        refine l_q rfl rfl (q_moveI rfl) ?_
        refine l_on rfl rfl hg66b ?_
        refine l_q rfl rfl (q_eql rfl rfl) ?_
        refine l_q rfl rfl (q_pickT rfl hg66b rfl) ?_
        refine l_q rfl rfl (q_moveB rfl) ?_
        refine g_splitL (t := 117) rfl (fun hg67 => ?_) (fun hg67 => ?_)
        ·
         have hg67b := hg67
         try simp only [decide_eq_true_eq, decide_eq_false_iff_not, Bool.not_eq_true', Bool.not_eq_false', Bool.and_eq_true, Bool.or_eq_true, Int.not_lt, Int.not_le, ne_eq, Decidable.not_not] at hg67
         refine l_on rfl rfl hg67b ?_
         refine l_q rfl rfl (q_moveI rfl) ?_
         refine l_on rfl rfl hg67b ?_
         refine l_q rfl rfl (q_eql rfl rfl) ?_
         refine l_q rfl rfl (q_pickT rfl hg67b rfl) ?_
         refine l_q rfl rfl (q_moveB rfl) ?_
         refine g_splitL (t := 121) rfl (fun hg68 => ?_) (fun hg68 => ?_)
         ·
          have hg68b := hg68
          try simp only [decide_eq_true_eq, decide_eq_false_iff_not, Bool.not_eq_true', Bool.not_eq_false', Bool.and_eq_true, Bool.or_eq_true, Int.not_lt, Int.not_le, ne_eq, Decidable.not_not] at hg68
          refine l_on rfl rfl hg68b ?_
          refine l_q rfl rfl (q_moveI rfl) ?_
          refine l_on rfl rfl hg68b ?_
          refine l_q rfl rfl (q_eql rfl rfl) ?_
          refine l_q rfl rfl (q_pickT rfl hg68b rfl) ?_
          refine l_q rfl rfl (q_moveB rfl) ?_
          refine g_splitL (t := 125) rfl (fun hg69 => ?_) (fun hg69 => ?_)
          ·
           have hg69b := hg69
           try simp only [decide_eq_true_eq, decide_eq_false_iff_not, Bool.not_eq_true', Bool.not_eq_false', Bool.and_eq_true, Bool.or_eq_true, Int.not_lt, Int.not_le, ne_eq, Decidable.not_not] at hg69
           refine l_on rfl rfl hg69b ?_
           refine l_q rfl rfl (q_moveB rfl) ?_
           refine l_q rfl rfl (q_pickT rfl hg69b rfl) ?_
           refine l_q rfl rfl (q_moveB rfl) ?_
           refine g_splitL (t := 128) rfl (fun hg70 => ?_) (fun hg70 => ?_)
           ·
            have hg70b := hg70
            try simp only [decide_eq_true_eq, decide_eq_false_iff_not, Bool.not_eq_true', Bool.not_eq_false', Bool.and_eq_true, Bool.or_eq_true, Int.not_lt, Int.not_le, ne_eq, Decidable.not_not] at hg70
            refine l_on rfl rfl hg70b ?_
            refine l_q rfl rfl (q_moveP rfl) ?_
            refine l_on rfl rfl hg70b ?_
            refine l_e rfl (fun K hK => ?_)
            have hlm71 : (List.map Prod.fst (mdel (mdel L38 a14) a25)).length = (mdel (mdel L38 a14) a25).length := List.length_map _
            refine e_call (by kernel_rfl) (nums_ok k mb s38 ((0 + ls (absN (mdel L25 a14)) a14) + ls (absN (mdel L38 a14)) a25) ((0 + ls (absN L25) a14) + ls (absN L38) a14) (mdel (mdel L38 a14) a25) hn55 (by omega) (by omega) _ (hS62.blk (i := 1) rfl) (hS62.map (i := 2) rfl) ((EOk.del (EOk.del hE38 a14) a25).mono (hS62.fz (i := 3) rfl))) rfl (after_N hS62 (fun v71 G71 w71 hv71 hS71 => ?_))
            clear hS62
            obtain ⟨ad71, cp71, rfl, rfl⟩ := hv71
            have hS72 : St _ _ [.ow 3 1 ad71 ((List.map Prod.fst (mdel (mdel L38 a14) a25)).length) cp71 (iv (List.map Prod.fst (mdel (mdel L38 a14) a25))), _, _, _, .fz g38, _, _, _, _, _, _] _ := hS71; clear hS71
            refine hK _ _ ?_; clear hK K
            refine l_on rfl rfl hg70b ?_
            refine l_q rfl rfl (q_lenSl (e := 3) rfl (by kernel_rfl)) ?_
            refine l_on rfl rfl hg70b ?_
            refine l_q rfl rfl (q_eql rfl rfl) ?_
            refine l_q rfl rfl (q_pickT rfl hg70b rfl) ?_
            refine l_q rfl rfl (q_assignB rfl) ?_
            refine l_nil ?_
            refine hK61 _ _ ?_
            refine wp_ret ?_
            refine c_ret1 rfl rfl ?_
            first | exact ⟨_, rfl, rfl, hS72.drop⟩ | exact ⟨_, rfl, congrArg Value.bool (decide_eq_true (by omega)), hS72.drop⟩
           ·
            have hg70b := hg70
            try simp only [decide_eq_true_eq, decide_eq_false_iff_not, Bool.not_eq_true', Bool.not_eq_false', Bool.and_eq_true, Bool.or_eq_true, Int.not_lt, Int.not_le, ne_eq, Decidable.not_not] at hg70
            exfalso; first | omega | (rw [hsm] at hg70; cases hg70)
          ·
           have hg69b := hg69
           try simp only [decide_eq_true_eq, decide_eq_false_iff_not, Bool.not_eq_true', Bool.not_eq_false', Bool.and_eq_true, Bool.or_eq_true, Int.not_lt, Int.not_le, ne_eq, Decidable.not_not] at hg69
           exfalso; first | omega | (rw [hsm] at hg69; cases hg69)
         ·
          have hg68b := hg68
          try simp only [decide_eq_true_eq, decide_eq_false_iff_not, Bool.not_eq_true', Bool.not_eq_false', Bool.and_eq_true, Bool.or_eq_true, Int.not_lt, Int.not_le, ne_eq, Decidable.not_not] at hg68
          exfalso; first | omega | (rw [hsm] at hg68; cases hg68)
        ·
         have hg67b := hg67
         try simp only [decide_eq_true_eq, decide_eq_false_iff_not, Bool.not_eq_true', Bool.not_eq_false', Bool.and_eq_true, Bool.or_eq_true, Int.not_lt, Int.not_le, ne_eq, Decidable.not_not] at hg67
         exfalso; first | omega | (rw [hsm] at hg67; cases hg67)
       ·
        have hg66b := hg66
        try simp only [decide_eq_true_eq, decide_eq_false_iff_not, Bool.not_eq_true', Bool.not_eq_false', Bool.and_eq_true, Bool.or_eq_true, Int.not_lt, Int.not_le, ne_eq, Decidable.not_not] at hg66
        exfalso; first | omega | (rw [hsm] at hg66; cases hg66)
      ·
       have hg65b := hg65
       try simp only [decide_eq_true_eq, decide_eq_false_iff_not, Bool.not_eq_true', Bool.not_eq_false', Bool.and_eq_true, Bool.or_eq_true, Int.not_lt, Int.not_le, ne_eq, Decidable.not_not] at hg65
       exfalso; first | omega | (rw [hsm] at hg65; cases hg65)
     ·
      have hg64b := hg64
      try simp only [decide_eq_true_eq, decide_eq_false_iff_not, Bool.not_eq_true', Bool.not_eq_false', Bool.and_eq_true, Bool.or_eq_true, Int.not_lt, Int.not_le, ne_eq, Decidable.not_not] at hg64
      exfalso; first | omega | (rw [hsm] at hg64; cases hg64)
    ·
     have hg63b := hg63
     try simp only [decide_eq_true_eq, decide_eq_false_iff_not, Bool.not_eq_true', Bool.not_eq_false', Bool.and_eq_true, Bool.or_eq_true, Int.not_lt, Int.not_le, ne_eq, Decidable.not_not] at hg63
     exfalso; first | omega | (rw [hsm] at hg63; cases hg63)
   ·
    have hc29b := hc29
    try simp only [decide_eq_true_eq, decide_eq_false_iff_not, Bool.not_eq_true', Bool.not_eq_false', Bool.and_eq_true, Bool.or_eq_true, Int.not_lt, Int.not_le, ne_eq, Decidable.not_not] at hc29
    refine wp_region_lit ?_
    refine l_q rfl rfl (q_moveP rfl) ?_
    refine l_q rfl rfl (q_moveI rfl) ?_
    refine l_e rfl (fun K hK => ?_)
    refine e_call (by kernel_rfl) (take_any k mb s25 0 0 L25 g25 hE25 hn25 (by omega) a14 _ (St.begin (Γ := [_, _, _]) hS26)) rfl (after_M (Γ1 := [_, _, _]) hS26 (fun v73 G73 w73 hv73 hS73 => ?_))
    clear hS26
    obtain ⟨l73, b73, an73, cn73, rfl, rfl, hs73⟩ := hv73
    have hS74 : St _ _ [.blk k (.cells #[.map (some mb), .int .i64 (s25 : Int), .int .i64 (((0 + ls (absN L25) a14) : Nat) : Int), .int .i64 ((0 : Nat) : Int)] 60), _, .fz g25, .ow 3 1 an73 l73.nd.length cn73 (iv l73.nd), _] _ := hS73; clear hS73
    have hn73 : NumOk (absN (mdel L25 a14)) s25 := by rw [absN_del]; exact hn25.del _
    have hgl73 := ls_add (absN L25) a14; rw [← absN_del, absN_len, absN_len] at hgl73
    obtain ⟨hv73, hb73⟩ := tk_val hs73 (hn25.tkv hm2)
    have hl173 := hn25.ls hm2
    have hno := no_del L25 a14
    have hm4 := mem_del (m := a14) hm3 hne
    have hb0 := hb73
    refine hK _ _ ?_; clear hK K
    refine l_q rfl rfl (q_move rfl) ?_
    refine l_q rfl rfl (q_extract rfl rfl) ?_
    refine l_q rfl rfl (q_extract rfl rfl) ?_
    refine l_q rfl rfl (q_assignI rfl) ?_
    refine l_nil ?_
    refine hK27 _ _ ?_
    refine wp_seq_k (fun K75 hK75 => ?_)
    refine wp_region_lit ?_
    refine l_q rfl rfl (q_moveP rfl) ?_
    refine l_q rfl rfl (q_moveI rfl) ?_
    refine l_e rfl (fun K hK => ?_)
    refine e_call (by kernel_rfl) (take_any k mb s25 (0 + ls (absN L25) a14) 0 (mdel L25 a14) g25 (EOk.del hE25 a14) hn73 (by omega) a14 _ (St.begin (Γ := [_, _, _]) hS74)) rfl (after_M (Γ1 := [_, _, _]) hS74 (fun v76 G76 w76 hv76 hS76 => ?_))
    clear hS74
    obtain ⟨l76, b76, an76, cn76, rfl, rfl, hs76⟩ := hv76
    have hS77 : St _ _ [.blk k (.cells #[.map (some mb), .int .i64 (s25 : Int), .int .i64 ((((0 + ls (absN L25) a14) + ls (absN (mdel L25 a14)) a14) : Nat) : Int), .int .i64 ((0 : Nat) : Int)] 60), _, .fz g25, .ow 3 1 an76 l76.nd.length cn76 (iv l76.nd), _, _] _ := hS76; clear hS76
    have hn76 : NumOk (absN (mdel (mdel L25 a14) a14)) s25 := by rw [absN_del]; exact hn73.del _
    have hgl76 := ls_add (absN (mdel L25 a14)) a14; rw [← absN_del, absN_len, absN_len] at hgl76
    obtain ⟨hv76, hb76⟩ := tk_val hs76 (tkv_no hno)
    have hl176 := ls_no hno
    have hno2 := no_more (m := a14) hno
    have hm5 := mem_del (m := a14) hm4 hne
    refine hK _ _ ?_; clear hK K
    refine l_q rfl rfl (q_move rfl) ?_
    refine l_q rfl rfl (q_extract rfl rfl) ?_
    refine l_q rfl rfl (q_extract rfl rfl) ?_
    refine l_e rfl (fun K hK => ?_)
    refine e_alloc (zv := .agg #[.int .i64 0, .int .i64 0, .int .i64 0, .int .i64 0, .slice none 0 0]) hS77 (by kernel_rfl) (fun b78 w78 (hS78 : St _ _ [.blk b78 (.cells #[.int .i64 (0 : Int), .int .i64 (0 : Int), .int .i64 (0 : Int), .int .i64 (0 : Int), .slice none 0 0] 25), _, _, .fz g25, _, _, _] _) => ?_)
    clear hS77
    refine hK _ _ ?_; clear hK K
    refine l_e rfl (fun K hK => ?_)
    refine e_storeA hS78 rfl rfl (by kernel_rfl) (by repeat' (first | exact trivial | refine ⟨by first | rfl | assumption | exact one_if (by assumption), ?_⟩)) (i := 0) rfl rfl (fun w79 (hS79 : St _ _ [.blk b78 (.cells #[.int .i64 l76.k, .int .i64 l76.f, .int .i64 l76.t, .int .i64 l76.x, .slice an76 l76.nd.length cn76] 25), _, _, .fz g25, _, _, _] _) => ?_)
    clear hS78
    refine hK _ _ ?_; clear hK K
    refine l_q rfl rfl (q_assignI rfl) ?_
    refine l_nil ?_
    refine hK75 _ _ ?_
    refine wp_seq_k (fun K80 hK80 => ?_)
    refine wp_region_lit ?_
    refine l_q rfl rfl (q_moveP rfl) ?_
    refine l_q rfl rfl (q_moveI rfl) ?_
    refine l_e rfl (fun K hK => ?_)
    have hS82 := hS79.fr3; clear hS79
    have hS83 := hS82.fr3; clear hS82
    have hS84 := hS83.fr3; clear hS83
    refine e_call (by kernel_rfl) (twice_any k mb s25 ((0 + ls (absN L25) a14) + ls (absN (mdel L25 a14)) a14) 0 (mdel (mdel L25 a14) a14) g25 (EOk.del (EOk.del hE25 a14) a14) hn76 (by omega) a14 _ (St.begin (Γ := [_, _, _]) hS84)) rfl (after_M (Γ1 := [_, _, _]) hS84 (fun v81 G81 w81 hv81 hS81 => ?_))
    clear hS84
    obtain ⟨a81, b81, L81, s81, g81, rfl, rfl, hle81, hE81, hs81⟩ := hv81
    have hS85 : St _ _ [.blk k (.cells #[.map (some mb), .int .i64 (s81 : Int), .int .i64 ((((0 + ls (absN L25) a14) + ls (absN (mdel L25 a14)) a14) : Nat) : Int), .int .i64 ((0 : Nat) : Int)] 60), .mp (.int .i64) mb (List.map nc L81), .fz g81, _, _, _, _] _ := hS81; clear hS81
    have hn81 := (tw_grow hn76 hs81).2.2
    have hgr81 := tw_grow hn76 hs81
    have hgl81 := hgr81.2.1; have hgs81 := hgr81.1; rw [absN_len, absN_len] at hgl81
    obtain ⟨hv81, hb81, hA81, hx81⟩ := tw_val hs81 (twN_no hno2)
    have hno3 := hno2; rw [← hA81] at hno3
    have hm6 := hm5; rw [← hA81] at hm6
    refine hK _ _ ?_; clear hK K
    refine l_q rfl rfl (q_move rfl) ?_
    refine l_q rfl rfl (q_extract rfl rfl) ?_
    refine l_q rfl rfl (q_extract rfl rfl) ?_
    refine l_q rfl rfl (q_assignI rfl) ?_
    refine l_q rfl rfl (q_assignI rfl) ?_
    refine l_nil ?_
    refine hK80 _ _ ?_
    refine wp_seq_k (fun K86 hK86 => ?_)
    refine wp_region_lit ?_
    refine l_q rfl rfl (q_moveP rfl) ?_
    refine l_q rfl rfl (q_moveI rfl) ?_
    refine l_e rfl (fun K hK => ?_)
    refine e_call (by kernel_rfl) (look_any k mb s81 ((0 + ls (absN L25) a14) + ls (absN (mdel L25 a14)) a14) 0 L81 hn81 a14 _ (hS85.blk (i := 0) rfl) (hS85.map (i := 1) rfl) (hE81.mono (hS85.fz (i := 2) rfl))) rfl (after_N hS85 (fun v87 G87 w87 hv87 hS87 => ?_))
    clear hS85
    obtain ⟨l87, b87, an87, cn87, rfl, rfl, hs87⟩ := hv87
    have hS88 : St _ _ [.ow 3 1 an87 l87.nd.length cn87 (iv l87.nd), _, _, .fz g81, _, _, _, _] _ := hS87; clear hS87
    obtain ⟨hv87, hb87⟩ := tk_val hs87 (tkv_no hno3)
    refine hK _ _ ?_; clear hK K
    refine l_q rfl rfl (q_move rfl) ?_
    refine l_q rfl rfl (q_extract rfl rfl) ?_
    refine l_q rfl rfl (q_extract rfl rfl) ?_
    refine l_e rfl (fun K hK => ?_)
    refine e_alloc (zv := .agg #[.int .i64 0, .int .i64 0, .int .i64 0, .int .i64 0, .slice none 0 0]) hS88 (by kernel_rfl) (fun b89 w89 (hS89 : St _ _ [.blk b89 (.cells #[.int .i64 (0 : Int), .int .i64 (0 : Int), .int .i64 (0 : Int), .int .i64 (0 : Int), .slice none 0 0] 25), _, _, _, .fz g81, _, _, _, _] _) => ?_)
    clear hS88
    refine hK _ _ ?_; clear hK K
    refine l_e rfl (fun K hK => ?_)
    refine e_storeA hS89 rfl rfl (by kernel_rfl) (by repeat' (first | exact trivial | refine ⟨by first | rfl | assumption | exact one_if (by assumption), ?_⟩)) (i := 0) rfl rfl (fun w90 (hS90 : St _ _ [.blk b89 (.cells #[.int .i64 l87.k, .int .i64 l87.f, .int .i64 l87.t, .int .i64 l87.x, .slice an87 l87.nd.length cn87] 25), _, _, _, .fz g81, _, _, _, _] _) => ?_)
    clear hS89
    refine hK _ _ ?_; clear hK K
    refine l_q rfl rfl (q_assignI rfl) ?_
    refine l_nil ?_
    refine hK86 _ _ ?_
    refine wp_seq_k (fun K91 hK91 => ?_)
    refine wp_region_lit ?_
    refine l_q rfl rfl (q_moveP rfl) ?_
    refine l_q rfl rfl (q_moveI rfl) ?_
    refine l_e rfl (fun K hK => ?_)
    have hS93 := hS90.fr4; clear hS90
    have hS94 := hS93.fr4; clear hS93
    have hS95 := hS94.fr4; clear hS94
    refine e_call (by kernel_rfl) (lose_any k mb s81 ((0 + ls (absN L25) a14) + ls (absN (mdel L25 a14)) a14) 0 L81 g81 hE81 hn81 (by omega) a14 _ (St.begin (Γ := [_, _, _]) hS95)) rfl (after_M (Γ1 := [_, _, _]) hS95 (fun v92 G92 w92 hv92 hS92 => ?_))
    clear hS95
    obtain ⟨b92, rfl, rfl, hs92⟩ := hv92
    have hS96 : St _ _ [.blk k (.cells #[.map (some mb), .int .i64 (s81 : Int), .int .i64 ((((0 + ls (absN L25) a14) + ls (absN (mdel L25 a14)) a14) : Nat) : Int), .int .i64 (((0 + ls (absN L81) a14) : Nat) : Int)] 60), .mp (.int .i64) mb (List.map nc (mdel L81 a14)), .fz g81, _, _, _, _, _, _] _ := hS92; clear hS92
    have hn92 : NumOk (absN (mdel L81 a14)) s81 := by rw [absN_del]; exact hn81.del _
    have hgl92 := ls_add (absN L81) a14; rw [← absN_del, absN_len, absN_len] at hgl92
    have hb92 : b92 = 121 := hs92.symm.trans (by rw [tkv_no hno3])
    have hl192 := ls_no hno3
    have hm7 := mem_del (m := a14) hm6 hne
    refine hK _ _ ?_; clear hK K
    refine l_q rfl rfl (q_assignI rfl) ?_
    refine l_nil ?_
    refine hK91 _ _ ?_
    refine wp_seq_k (fun K97 hK97 => ?_)
    refine wp_region_lit ?_
    refine l_q rfl rfl (q_moveP rfl) ?_
    refine l_q rfl rfl (q_moveI rfl) ?_
    refine l_e rfl (fun K hK => ?_)
    refine e_call (by kernel_rfl) (take_any k mb s81 ((0 + ls (absN L25) a14) + ls (absN (mdel L25 a14)) a14) (0 + ls (absN L81) a14) (mdel L81 a14) g81 (EOk.del hE81 a14) hn92 (by omega) a25 _ (St.begin (Γ := [_, _, _]) hS96)) rfl (after_M (Γ1 := [_, _, _]) hS96 (fun v98 G98 w98 hv98 hS98 => ?_))
    clear hS96
    obtain ⟨l98, b98, an98, cn98, rfl, rfl, hs98⟩ := hv98
    have hS99 : St _ _ [.blk k (.cells #[.map (some mb), .int .i64 (s81 : Int), .int .i64 (((((0 + ls (absN L25) a14) + ls (absN (mdel L25 a14)) a14) + ls (absN (mdel L81 a14)) a25) : Nat) : Int), .int .i64 (((0 + ls (absN L81) a14) : Nat) : Int)] 60), .mp (.int .i64) mb (List.map nc (mdel (mdel L81 a14) a25)), .fz g81, .ow 3 1 an98 l98.nd.length cn98 (iv l98.nd), _, _, _, _, _, _] _ := hS98; clear hS98
    have hn98 : NumOk (absN (mdel (mdel L81 a14) a25)) s81 := by rw [absN_del]; exact hn92.del _
    have hgl98 := ls_add (absN (mdel L81 a14)) a25; rw [← absN_del, absN_len, absN_len] at hgl98
    obtain ⟨hv98, hb98⟩ := tk_val hs98 (hn92.tkv hm7)
    have hl198 := hn92.ls hm7
    have hsm := same_self hv98
    have hln : l98.nd.length = l.nd.length := by rw [hv98]
    refine hK _ _ ?_; clear hK K
    refine l_q rfl rfl (q_move rfl) ?_
    refine l_q rfl rfl (q_extract rfl rfl) ?_
    refine l_q rfl rfl (q_extract rfl rfl) ?_
    refine l_e rfl (fun K hK => ?_)
    refine e_alloc (zv := .agg #[.int .i64 0, .int .i64 0, .int .i64 0, .int .i64 0, .slice none 0 0]) hS99 (by kernel_rfl) (fun b100 w100 (hS100 : St _ _ [.blk b100 (.cells #[.int .i64 (0 : Int), .int .i64 (0 : Int), .int .i64 (0 : Int), .int .i64 (0 : Int), .slice none 0 0] 25), _, _, .fz g81, _, _, _, _, _, _, _] _) => ?_)
    clear hS99
    refine hK _ _ ?_; clear hK K
    refine l_e rfl (fun K hK => ?_)
    refine e_storeA hS100 rfl rfl (by kernel_rfl) (by repeat' (first | exact trivial | refine ⟨by first | rfl | assumption | exact one_if (by assumption), ?_⟩)) (i := 0) rfl rfl (fun w101 (hS101 : St _ _ [.blk b100 (.cells #[.int .i64 l98.k, .int .i64 l98.f, .int .i64 l98.t, .int .i64 l98.x, .slice an98 l98.nd.length cn98] 25), _, _, .fz g81, _, _, _, _, _, _, _] _) => ?_)
    clear hS100
    refine hK _ _ ?_; clear hK K
    refine l_q rfl rfl (q_assignI rfl) ?_
    refine l_nil ?_
    refine hK97 _ _ ?_
    refine wp_seq_k (fun K102 hK102 => ?_)
    refine wp_region_lit ?_
    refine l_q rfl rfl (q_loadA (m := 5) rfl (by kernel_rfl) (by kernel_rfl) (hS101.blk (i := 0) rfl) rfl rfl) ?_
    refine l_q rfl rfl (q_loadA (m := 5) rfl (by kernel_rfl) (by kernel_rfl) (hS101.blk (i := 10) rfl) rfl rfl) ?_
    refine l_e rfl (fun K hK => ?_)
    refine e_call (by kernel_rfl) (lsame_ok l98 l l98.nd.length l.nd.length (by first | rfl | omega) (by first | rfl | omega) (by omega) (by omega) _ _ _ _ _ (hS101.owG (i := 4) rfl) (hG.mono hS101.base)) rfl (after_R hS101 (fun v103 w103 hv103 hS103 => ?_))
    clear hS101
    obtain rfl := hv103
    refine hK _ _ ?_; clear hK K
    refine l_q rfl rfl (q_assignB rfl) ?_
    refine l_nil ?_
    refine hK102 _ _ ?_
    refine wp_seq_k (fun K104 hK104 => ?_)
    refine wp_region_lit ?_
    refine l_e rfl (fun K hK => ?_)
    refine e_call (by kernel_rfl) (alive12_ok _) rfl (after_R hS103 (fun v105 w105 hv105 hS105 => ?_))
    clear hS103
    obtain rfl := hv105
    refine hK _ _ ?_; clear hK K
    refine l_q rfl rfl (q_moveB rfl) ?_
    refine l_on rfl rfl rfl ?_
    refine l_q rfl rfl (q_moveI rfl) ?_
    refine l_on rfl rfl rfl ?_
    refine l_q rfl rfl (q_eql rfl rfl) ?_
    refine l_q rfl rfl (q_pickT rfl rfl rfl) ?_
    refine l_q rfl rfl (q_moveB rfl) ?_
    refine g_splitL (t := 101) rfl (fun hg106 => ?_) (fun hg106 => ?_)
    ·
     have hg106b := hg106
     try simp only [decide_eq_true_eq, decide_eq_false_iff_not, Bool.not_eq_true', Bool.not_eq_false', Bool.and_eq_true, Bool.or_eq_true, Int.not_lt, Int.not_le, ne_eq, Decidable.not_not] at hg106
     refine l_on rfl rfl hg106b ?_
     refine l_q rfl rfl (q_moveI rfl) ?_
     refine l_on rfl rfl hg106b ?_
     refine l_q rfl rfl (q_eql rfl rfl) ?_
     refine l_q rfl rfl (q_pickT rfl hg106b rfl) ?_
     refine l_q rfl rfl (q_moveB rfl) ?_
     refine g_splitL (t := 105) rfl (fun hg107 => ?_) (fun hg107 => ?_)
     ·
      have hg107b := hg107
      try simp only [decide_eq_true_eq, decide_eq_false_iff_not, Bool.not_eq_true', Bool.not_eq_false', Bool.and_eq_true, Bool.or_eq_true, Int.not_lt, Int.not_le, ne_eq, Decidable.not_not] at hg107
      refine l_on rfl rfl hg107b ?_
      refine l_q rfl rfl (q_moveI rfl) ?_
      refine l_on rfl rfl hg107b ?_
      refine l_q rfl rfl (q_eql rfl rfl) ?_
      refine l_q rfl rfl (q_pickT rfl hg107b rfl) ?_
      refine l_q rfl rfl (q_moveB rfl) ?_
      refine g_splitL (t := 109) rfl (fun hg108 => ?_) (fun hg108 => ?_)
      ·
       have hg108b := hg108
       try simp only [decide_eq_true_eq, decide_eq_false_iff_not, Bool.not_eq_true', Bool.not_eq_false', Bool.and_eq_true, Bool.or_eq_true, Int.not_lt, Int.not_le, ne_eq, Decidable.not_not] at hg108
       refine l_on rfl rfl hg108b ?_
       refine l_q rfl rfl (q_moveI rfl) ?_
       refine l_on rfl rfl hg108b ?_
       refine l_q rfl rfl (q_eql rfl rfl) ?_
       refine l_q rfl rfl (q_pickT rfl hg108b rfl) ?_
       refine l_q rfl rfl (q_moveB rfl) ?_
       refine g_splitL (t := 113) rfl (fun hg109 => ?_) (fun hg109 => ?_)
       ·
        have hg109b := hg109
        try simp only [decide_eq_true_eq, decide_eq_false_iff_not, Bool.not_eq_true', Bool.not_eq_false', Bool.and_eq_true, Bool.or_eq_true, Int.not_lt, Int.not_le, ne_eq, Decidable.not_not] at hg109
        refine l_on rfl rfl hg109b ?_
        refine l_q rfl rfl (q_moveI rfl) ?_
        refine l_on rfl rfl hg109b ?_
        refine l_q rfl rfl (q_eql rfl rfl) ?_
        refine l_q rfl rfl (q_pickT rfl hg109b rfl) ?_
        refine l_q rfl rfl (q_moveB rfl) ?_
        refine g_splitL (t := 117) rfl (fun hg110 => ?_) (fun hg110 => ?_)
        ·
         have hg110b := hg110
         try simp only [decide_eq_true_eq, decide_eq_false_iff_not, Bool.not_eq_true', Bool.not_eq_false', Bool.and_eq_true, Bool.or_eq_true, Int.not_lt, Int.not_le, ne_eq, Decidable.not_not] at hg110
         refine l_on rfl rfl hg110b ?_
         refine l_q rfl rfl (q_moveI rfl) ?_
         refine l_on rfl rfl hg110b ?_
         refine l_q rfl rfl (q_eql rfl rfl) ?_
         refine l_q rfl rfl (q_pickT rfl hg110b rfl) ?_
         refine l_q rfl rfl (q_moveB rfl) ?_
         refine g_splitL (t := 121) rfl (fun hg111 => ?_) (fun hg111 => ?_)
         ·
          have hg111b := hg111
          try simp only [decide_eq_true_eq, decide_eq_false_iff_not, Bool.not_eq_true', Bool.not_eq_false', Bool.and_eq_true, Bool.or_eq_true, Int.not_lt, Int.not_le, ne_eq, Decidable.not_not] at hg111
          refine l_on rfl rfl hg111b ?_
          refine l_q rfl rfl (q_moveI rfl) ?_
          refine l_on rfl rfl hg111b ?_
          refine l_q rfl rfl (q_eql rfl rfl) ?_
          refine l_q rfl rfl (q_pickT rfl hg111b rfl) ?_
          refine l_q rfl rfl (q_moveB rfl) ?_
          refine g_splitL (t := 125) rfl (fun hg112 => ?_) (fun hg112 => ?_)
          ·
           have hg112b := hg112
           try simp only [decide_eq_true_eq, decide_eq_false_iff_not, Bool.not_eq_true', Bool.not_eq_false', Bool.and_eq_true, Bool.or_eq_true, Int.not_lt, Int.not_le, ne_eq, Decidable.not_not] at hg112
           refine l_on rfl rfl hg112b ?_
           refine l_q rfl rfl (q_moveB rfl) ?_
           refine l_q rfl rfl (q_pickT rfl hg112b rfl) ?_
           refine l_q rfl rfl (q_moveB rfl) ?_
           refine g_splitL (t := 128) rfl (fun hg113 => ?_) (fun hg113 => ?_)
           ·
            have hg113b := hg113
            try simp only [decide_eq_true_eq, decide_eq_false_iff_not, Bool.not_eq_true', Bool.not_eq_false', Bool.and_eq_true, Bool.or_eq_true, Int.not_lt, Int.not_le, ne_eq, Decidable.not_not] at hg113
            refine l_on rfl rfl hg113b ?_
            refine l_q rfl rfl (q_moveP rfl) ?_
            refine l_on rfl rfl hg113b ?_
            refine l_e rfl (fun K hK => ?_)
            have hlm114 : (List.map Prod.fst (mdel (mdel L81 a14) a25)).length = (mdel (mdel L81 a14) a25).length := List.length_map _
            refine e_call (by kernel_rfl) (nums_ok k mb s81 (((0 + ls (absN L25) a14) + ls (absN (mdel L25 a14)) a14) + ls (absN (mdel L81 a14)) a25) (0 + ls (absN L81) a14) (mdel (mdel L81 a14) a25) hn98 (by omega) (by omega) _ (hS105.blk (i := 1) rfl) (hS105.map (i := 2) rfl) ((EOk.del (EOk.del hE81 a14) a25).mono (hS105.fz (i := 3) rfl))) rfl (after_N hS105 (fun v114 G114 w114 hv114 hS114 => ?_))
            clear hS105
            obtain ⟨ad114, cp114, rfl, rfl⟩ := hv114
            have hS115 : St _ _ [.ow 3 1 ad114 ((List.map Prod.fst (mdel (mdel L81 a14) a25)).length) cp114 (iv (List.map Prod.fst (mdel (mdel L81 a14) a25))), _, _, _, .fz g81, _, _, _, _, _, _, _] _ := hS114; clear hS114
            refine hK _ _ ?_; clear hK K
            refine l_on rfl rfl hg113b ?_
            refine l_q rfl rfl (q_lenSl (e := 3) rfl (by kernel_rfl)) ?_
            refine l_on rfl rfl hg113b ?_
            refine l_q rfl rfl (q_eql rfl rfl) ?_
            refine l_q rfl rfl (q_pickT rfl hg113b rfl) ?_
            refine l_q rfl rfl (q_assignB rfl) ?_
            refine l_nil ?_
            refine hK104 _ _ ?_
            refine wp_ret ?_
            refine c_ret1 rfl rfl ?_
            first | exact ⟨_, rfl, rfl, hS115.drop⟩ | exact ⟨_, rfl, congrArg Value.bool (decide_eq_true (by omega)), hS115.drop⟩
           ·
            have hg113b := hg113
            try simp only [decide_eq_true_eq, decide_eq_false_iff_not, Bool.not_eq_true', Bool.not_eq_false', Bool.and_eq_true, Bool.or_eq_true, Int.not_lt, Int.not_le, ne_eq, Decidable.not_not] at hg113
            exfalso; first | omega | (rw [hsm] at hg113; cases hg113)
          ·
           have hg112b := hg112
           try simp only [decide_eq_true_eq, decide_eq_false_iff_not, Bool.not_eq_true', Bool.not_eq_false', Bool.and_eq_true, Bool.or_eq_true, Int.not_lt, Int.not_le, ne_eq, Decidable.not_not] at hg112
           exfalso; first | omega | (rw [hsm] at hg112; cases hg112)
         ·
          have hg111b := hg111
          try simp only [decide_eq_true_eq, decide_eq_false_iff_not, Bool.not_eq_true', Bool.not_eq_false', Bool.and_eq_true, Bool.or_eq_true, Int.not_lt, Int.not_le, ne_eq, Decidable.not_not] at hg111
          exfalso; first | omega | (rw [hsm] at hg111; cases hg111)
        ·
         have hg110b := hg110
         try simp only [decide_eq_true_eq, decide_eq_false_iff_not, Bool.not_eq_true', Bool.not_eq_false', Bool.and_eq_true, Bool.or_eq_true, Int.not_lt, Int.not_le, ne_eq, Decidable.not_not] at hg110
         exfalso; first | omega | (rw [hsm] at hg110; cases hg110)
       ·
        have hg109b := hg109
        try simp only [decide_eq_true_eq, decide_eq_false_iff_not, Bool.not_eq_true', Bool.not_eq_false', Bool.and_eq_true, Bool.or_eq_true, Int.not_lt, Int.not_le, ne_eq, Decidable.not_not] at hg109
        exfalso; first | omega | (rw [hsm] at hg109; cases hg109)
      ·
       have hg108b := hg108
       try simp only [decide_eq_true_eq, decide_eq_false_iff_not, Bool.not_eq_true', Bool.not_eq_false', Bool.and_eq_true, Bool.or_eq_true, Int.not_lt, Int.not_le, ne_eq, Decidable.not_not] at hg108
       exfalso; first | omega | (rw [hsm] at hg108; cases hg108)
     ·
      have hg107b := hg107
      try simp only [decide_eq_true_eq, decide_eq_false_iff_not, Bool.not_eq_true', Bool.not_eq_false', Bool.and_eq_true, Bool.or_eq_true, Int.not_lt, Int.not_le, ne_eq, Decidable.not_not] at hg107
      exfalso; first | omega | (rw [hsm] at hg107; cases hg107)
    ·
     have hg106b := hg106
     try simp only [decide_eq_true_eq, decide_eq_false_iff_not, Bool.not_eq_true', Bool.not_eq_false', Bool.and_eq_true, Bool.or_eq_true, Int.not_lt, Int.not_le, ne_eq, Decidable.not_not] at hg106
     exfalso; first | omega | (rw [hsm] at hg106; cases hg106)

set_option maxRecDepth 100000 in
theorem netFull_ok (l : Lr) (an : Option Addr) (cn : Nat) (z : Int) (hz1 : -9223372036854775808 ≤ z) (hz2 : z ≤ 9223372036854775807) (bb : Bool) (w : World) (hG : SlG (hw w) an (iv l.nd)) : Calls Try.prog 3 #[.agg #[.int .i64 l.k, .int .i64 l.f, .int .i64 l.t, .int .i64 l.x, .slice an l.nd.length cn], .int .i64 z, .bool bb] w (PostR w fun v => v = .bool true) := by
 have hS := St.start w
 refine c_enter Try.func3 rfl rfl rfl ?_
 refine wp_seq_k (fun K1 hK1 => ?_)
 refine wp_region_lit ?_
 refine l_e rfl (fun K hK => ?_)
 refine e_boxA hS rfl (fun b2 w2 (hS2 : St _ _ [.blk b2 (.cells #[.int .i64 l.k, .int .i64 l.f, .int .i64 l.t, .int .i64 l.x, .slice an l.nd.length cn] 25)] _) => ?_)
 clear hS
 refine hK _ _ ?_; clear hK K
 refine l_q rfl rfl (q_assignB rfl) ?_
 refine l_nil ?_
 refine hK1 _ _ ?_
 refine wp_seq_k (fun K3 hK3 => ?_)
 refine wp_region_lit ?_
 refine l_e rfl (fun K hK => ?_)
 refine e_call (by kernel_rfl) (nnew_ok _) rfl (after_N hS2 (fun v4 G4 w4 hv4 hS4 => ?_))
 clear hS2
 obtain ⟨k, mb, rfl, rfl⟩ := hv4
 have hS5 : St _ _ [.blk k (.cells #[.map (some mb), .int .i64 ((0 : Nat) : Int), .int .i64 ((0 : Nat) : Int), .int .i64 ((0 : Nat) : Int)] 60), .mp (.int .i64) mb (List.map nc []), _] _ := hS4; clear hS4
 have hS6 := hS5.fz0; clear hS5
 have hS7 := hS6.fr2; clear hS6
 have hS8 := hS7.fr2; clear hS7
 obtain ⟨L0, hL0⟩ : ∃ L : List (Int × Ent), L = [] := ⟨[], rfl⟩
 rw [← hL0] at hS8
 have hE0 : EOk (fun _ => none) L0 := by rw [hL0]; exact EOk.nil
 have hn0 : NumOk (absN L0) 0 := by rw [hL0]; exact NumOk.nil 0
 have hl0 : L0.length = 0 := by rw [hL0]; rfl
 refine hK _ _ ?_; clear hK K
 refine l_q rfl rfl (q_assignP rfl) ?_
 refine l_nil ?_
 refine hK3 _ _ ?_
 refine wp_seq_k (fun K9 hK9 => ?_)
 refine wp_seq_k (fun K10 hK10 => ?_)
 refine wp_region_lit ?_
 refine l_q rfl rfl (q_moveP rfl) ?_
 refine l_q rfl rfl (q_peq rfl (by kernel_rfl)) ?_
 refine l_nil ?_
 refine hK10 _ _ ?_
 refine c_condF rfl rfl ?_
 refine wp_skip ?_
 refine hK9 _ _ ?_
 refine wp_seq_k (fun K12 hK12 => ?_)
 refine wp_region_lit ?_
 refine l_q rfl rfl (q_fieldAddr (ft := 23) (o := 4) rfl (by kernel_rfl)) ?_
 refine l_e rfl (fun K hK => ?_)
 refine e_store1 hS8 rfl rfl (by kernel_rfl) (by first | rfl | assumption) (i := 3) rfl rfl (fun w13 (hS13 : St _ _ [_, .mp (.int .i64) mb (List.map nc L0), .fz (fun _ => none), .blk b2 (.cells #[.int .i64 l.k, .int .i64 l.f, .int .i64 l.t, .int .i64 l.x, .slice none 0 0] 25)] _) => ?_)
 clear hS8
 refine hK _ _ ?_; clear hK K
 refine l_nil ?_
 refine hK12 _ _ ?_
 refine wp_seq_k (fun K14 hK14 => ?_)
 refine wp_region_lit ?_
 refine l_q rfl rfl (q_moveP rfl) ?_
 refine l_q rfl rfl (q_loadA (m := 5) rfl (by kernel_rfl) (by kernel_rfl) (hS13.blk (i := 3) rfl) rfl rfl) ?_
 refine l_e rfl (fun K hK => ?_)
 refine e_call (by kernel_rfl) (send_any k mb 0 0 0 L0 (fun _ => none) hE0 hn0 (by omega) (Lr.mk l.k l.f l.t l.x []) 0 (by first | rfl | omega) (by omega) none 0 _ _ ((fun _ _ e => by cases e) : Rog [_, _, _] _ (fun _ => none)) SlG.nil (St.begin (Γ := [_, _, _]) hS13)) rfl (after_M (Γ1 := [_, _, _]) hS13 (fun v15 G15 w15 hv15 hS15 => ?_))
 clear hS13
 obtain ⟨a15, b15, L15, s15, g15, rfl, rfl, hle15, hE15, hs15⟩ := hv15
 have hS16 : St _ _ [.blk k (.cells #[.map (some mb), .int .i64 (s15 : Int), .int .i64 ((0 : Nat) : Int), .int .i64 ((0 : Nat) : Int)] 60), .mp (.int .i64) mb (List.map nc L15), .fz g15, _] _ := hS15; clear hS15
 have hn15 := hn0.snd' hs15
 have hgr15 := snd_grow hs15
 have hgl15 := hgr15.2.1; have hgs15 := hgr15.1; rw [absN_len, absN_len] at hgl15
 refine hK _ _ ?_; clear hK K
 refine l_q rfl rfl (q_move rfl) ?_
 refine l_q rfl rfl (q_extract rfl rfl) ?_
 refine l_q rfl rfl (q_extract rfl rfl) ?_
 refine l_q rfl rfl (q_assignI rfl) ?_
 refine l_q rfl rfl (q_assignI rfl) ?_
 refine l_nil ?_
 refine hK14 _ _ ?_
 refine wp_seq_k (fun K17 hK17 => ?_)
 refine wp_seq_k (fun K18 hK18 => ?_)
 refine wp_region_lit ?_
 refine l_q rfl rfl (q_moveI rfl) ?_
 refine l_q rfl rfl (q_neq rfl rfl) ?_
 refine l_nil ?_
 refine hK18 _ _ ?_
 refine c_cond rfl (fun hc19 => ?_) (fun hc19 => ?_)
 ·
  have hc19b := hc19
  try simp only [decide_eq_true_eq, decide_eq_false_iff_not, Bool.not_eq_true', Bool.not_eq_false', Bool.and_eq_true, Bool.or_eq_true, Int.not_lt, Int.not_le, ne_eq, Decidable.not_not] at hc19
  have h111 := snd_111 hs15 hc19 (by rw [absN_len]; omega)
  have hnon := (snd_non hs15 hc19).2
  refine wp_seq_k (fun K20 hK20 => ?_)
  refine wp_region_lit ?_
  refine l_e rfl (fun K hK => ?_)
  refine e_call (by kernel_rfl) (alive12_ok _) rfl (after_R hS16 (fun v21 w21 hv21 hS21 => ?_))
  clear hS16
  obtain rfl := hv21
  refine hK _ _ ?_; clear hK K
  refine l_q rfl rfl (q_moveB rfl) ?_
  refine l_on rfl rfl rfl ?_
  refine l_q rfl rfl (q_moveI rfl) ?_
  refine l_on rfl rfl rfl ?_
  refine l_q rfl rfl (q_eql rfl rfl) ?_
  refine l_q rfl rfl (q_pickT rfl rfl rfl) ?_
  refine l_q rfl rfl (q_assignB rfl) ?_
  refine l_nil ?_
  refine hK20 _ _ ?_
  refine wp_ret ?_
  refine c_ret1 rfl rfl ?_
  first | exact ⟨_, rfl, rfl, hS21.drop⟩ | exact ⟨_, rfl, congrArg Value.bool (decide_eq_true (by omega)), hS21.drop⟩
 ·
  have hc19b := hc19
  try simp only [decide_eq_true_eq, decide_eq_false_iff_not, Bool.not_eq_true', Bool.not_eq_false', Bool.and_eq_true, Bool.or_eq_true, Int.not_lt, Int.not_le, ne_eq, Decidable.not_not] at hc19
  obtain ⟨hy1, hy2, hy3, hyR, _⟩ := snd_yes hs15 hc19
  have hall : absN L15 = allL (Lr.mk l.k l.f l.t l.x []) 1 := by rw [hy3, hL0]; rfl
  refine wp_skip ?_
  refine hK17 _ _ ?_
  refine wp_seq_k (fun K22 hK22 => ?_)
  refine wp_seq_k (fun K23 hK23 => ?_)
  refine wp_region_lit ?_
  refine l_q rfl rfl (q_assignI rfl) ?_
  refine l_nil ?_
  refine hK23 _ _ ?_
  refine wp_block ?_
  subst hy2
  refine c_loop (τ := Nat × (List (Int × Ent)) × Gh) [(6, 6), (10, 12), (37, 47)] (fun x => (fun (i : Nat) (L : List (Int × Ent)) (g : Gh) => [(10, .int .i64 (i : Int))]) x.1 x.2.1 x.2.2) (fun x w' => (fun (i : Nat) (L : List (Int × Ent)) (g : Gh) => St w (fun _ => False) [.blk k (.cells #[.map (some mb), .int .i64 (i : Int), .int .i64 ((0 : Nat) : Int), .int .i64 ((0 : Nat) : Int)] 60), .mp (.int .i64) mb (List.map nc L), .fz g, .blk b2 (.cells #[.int .i64 l.k, .int .i64 l.f, .int .i64 l.t, .int .i64 l.x, .slice none 0 0] 25)] w' ∧ 1 ≤ i ∧ i ≤ 1024 ∧ EOk g L ∧ NumOk (absN L) i ∧ absN L = allL (Lr.mk l.k l.f l.t l.x []) i) x.1 x.2.1 x.2.2) (fun x => (fun (i : Nat) (L : List (Int × Ent)) (g : Gh) => 1024 - i) x.1 x.2.1 x.2.2) (⟨1, L15, g15⟩) ?_ (by repeat' (first | exact trivial | refine ⟨by first | rfl | exact int_succ _ | assumption, ?_⟩)) (fun x24 j24 w24 hJ24 K24 hK24 => ?_)
  ·
   exact ⟨hS16, (by omega), (by omega), hE15, hn15, hall⟩
  ·
   obtain ⟨i, L, g⟩ := x24
   obtain ⟨hS24, hi1, hi2, hE, hn, hal⟩ := hJ24
   try dsimp only at hS24 hi1 hi2 hE hn hal ⊢
   have hlL : L.length = i := by rw [← absN_len, hal, allL_len]
   refine wp_seq_k (fun K25 hK25 => ?_)
   refine wp_seq_k (fun K26 hK26 => ?_)
   refine wp_region_lit ?_
   refine l_q rfl rfl (q_moveI rfl) ?_
   refine l_q rfl rfl (q_lss rfl rfl) ?_
   refine l_nil ?_
   refine hK26 _ _ ?_
   refine c_cond rfl (fun hc27 => ?_) (fun hc27 => ?_)
   ·
    have hc27b := hc27
    try simp only [decide_eq_true_eq, decide_eq_false_iff_not, Bool.not_eq_true', Bool.not_eq_false', Bool.and_eq_true, Bool.or_eq_true, Int.not_lt, Int.not_le, ne_eq, Decidable.not_not] at hc27
    refine wp_skip ?_
    refine hK25 _ _ ?_
    refine wp_seq_k (fun K28 hK28 => ?_)
    refine wp_block ?_
    refine wp_seq_k (fun K29 hK29 => ?_)
    refine wp_region_lit ?_
    refine l_q rfl rfl (q_moveP rfl) ?_
    refine l_e rfl (fun K hK => ?_)
    refine e_call (by kernel_rfl) (twice_any k mb i 0 0 L g hE hn (by omega) (0 : Int) _ (St.begin (Γ := [_, _, _]) hS24)) rfl (after_M (Γ1 := [_, _, _]) hS24 (fun v30 G30 w30 hv30 hS30 => ?_))
    clear hS24
    obtain ⟨a30, b30, L30, s30, g30, rfl, rfl, hle30, hE30, hs30⟩ := hv30
    have hS31 : St _ _ [.blk k (.cells #[.map (some mb), .int .i64 (s30 : Int), .int .i64 ((0 : Nat) : Int), .int .i64 ((0 : Nat) : Int)] 60), .mp (.int .i64) mb (List.map nc L30), .fz g30, _] _ := hS30; clear hS30
    have hn30 := (tw_grow hn hs30).2.2
    have hgr30 := tw_grow hn hs30
    have hgl30 := hgr30.2.1; have hgs30 := hgr30.1; rw [absN_len, absN_len] at hgl30
    obtain ⟨ha30, hb30, hA30, hx30⟩ := tw_val hs30 ((hn.twN (l := (Lr.mk l.k l.f l.t l.x [])) (by rw [hal]; exact allL_mem (by omega) (by omega))).trans (snd_ok hyR (by rw [absN_len]; omega)))
    subst hx30
    refine hK _ _ ?_; clear hK K
    refine l_q rfl rfl (q_move rfl) ?_
    refine l_q rfl rfl (q_extract rfl rfl) ?_
    refine l_q rfl rfl (q_extract rfl rfl) ?_
    refine l_q rfl rfl (q_assignI rfl) ?_
    refine l_q rfl rfl (q_assignI rfl) ?_
    refine l_nil ?_
    refine hK29 _ _ ?_
    refine wp_seq_k (fun K32 hK32 => ?_)
    refine wp_region_lit ?_
    refine l_q rfl rfl (q_moveI rfl) ?_
    refine l_q rfl rfl (q_neq rfl rfl) ?_
    refine l_nil ?_
    refine hK32 _ _ ?_
    refine c_cond rfl (fun hc33 => ?_) (fun hc33 => ?_)
    ·
     have hc33b := hc33
     try simp only [decide_eq_true_eq, decide_eq_false_iff_not, Bool.not_eq_true', Bool.not_eq_false', Bool.and_eq_true, Bool.or_eq_true, Int.not_lt, Int.not_le, ne_eq, Decidable.not_not] at hc33
     exfalso; omega
    ·
     have hc33b := hc33
     try simp only [decide_eq_true_eq, decide_eq_false_iff_not, Bool.not_eq_true', Bool.not_eq_false', Bool.and_eq_true, Bool.or_eq_true, Int.not_lt, Int.not_le, ne_eq, Decidable.not_not] at hc33
     refine wp_skip ?_
     refine hK28 _ _ ?_
     refine wp_region_lit ?_
     refine l_q rfl rfl (q_moveI rfl) ?_
     refine l_q rfl rfl (q_addx rfl rfl (by first | decide | omega) (by first | decide | omega)) ?_
     refine l_q rfl rfl (q_assignI rfl) ?_
     refine l_nil ?_
     refine hK24 _ _ (came (⟨(i + 1), L30, g30⟩) (by repeat' (first | exact Agree.refl _ _ | refine Agree.up ?_ rfl | refine Agree.hav2 ?_ rfl | refine Agree.ups2 ?_ rfl)) (by repeat' (first | exact trivial | refine ⟨by first | rfl | exact int_succ _ | assumption, ?_⟩)) ?_)
     exact ⟨⟨hS31, (by omega), (by show i + 1 ≤ 1024; omega), hE30, hn30, (by rw [hA30, hal, allL_succ])⟩, by (show 1024 - (i + 1) < 1024 - i); omega⟩
   ·
    have hc27b := hc27
    try simp only [decide_eq_true_eq, decide_eq_false_iff_not, Bool.not_eq_true', Bool.not_eq_false', Bool.and_eq_true, Bool.or_eq_true, Int.not_lt, Int.not_le, ne_eq, Decidable.not_not] at hc27
    refine wp_exit ?_
    refine hK22 _ _ ?_
    refine wp_seq_k (fun K34 hK34 => ?_)
    refine wp_seq_k (fun K35 hK35 => ?_)
    have hii : i = 1024 := by omega
    have hE' := hE
    refine wp_region_lit ?_
    refine l_q rfl rfl (q_moveI rfl) ?_
    refine l_q rfl rfl (q_lss rfl rfl) ?_
    refine l_nil ?_
    refine hK35 _ _ ?_
    refine c_cond rfl (fun hc36 => ?_) (fun hc36 => ?_)
    ·
     have hc36b := hc36
     try simp only [decide_eq_true_eq, decide_eq_false_iff_not, Bool.not_eq_true', Bool.not_eq_false', Bool.and_eq_true, Bool.or_eq_true, Int.not_lt, Int.not_le, ne_eq, Decidable.not_not] at hc36
     refine wp_region_lit ?_
     refine l_q rfl rfl (q_moveI rfl) ?_
     refine l_q rfl rfl (q_addx rfl rfl (by first | decide | omega) (by first | decide | omega)) ?_
     refine l_q rfl rfl (q_neg rfl) ?_
     refine l_q rfl rfl (q_assignI rfl) ?_
     refine l_nil ?_
     refine hK34 _ _ ?_
     refine wp_seq_k (fun K37 hK37 => ?_)
     refine wp_region_lit ?_
     refine l_q rfl rfl (q_moveI rfl) ?_
     refine l_q rfl rfl (q_rem rfl rfl (by first | decide | omega)) ?_
     refine l_q rfl rfl (q_assignI rfl) ?_
     refine l_nil ?_
     refine hK37 _ _ ?_
     refine wp_seq_k (fun K38 hK38 => ?_)
     refine wp_region_lit ?_
     refine l_q rfl rfl (q_moveP rfl) ?_
     refine l_q rfl rfl (q_loadA (m := 5) rfl (by kernel_rfl) (by kernel_rfl) (hS24.blk (i := 3) rfl) rfl rfl) ?_
     refine l_e rfl (fun K hK => ?_)
     refine e_call (by kernel_rfl) (send_any k mb i 0 0 L g hE hn (by omega) (Lr.mk l.k l.f l.t l.x []) 0 (by first | rfl | omega) (by omega) none 0 _ _ ((fun _ _ e => by cases e) : Rog [_, _, _] _ (fun _ => none)) SlG.nil (St.begin (Γ := [_, _, _]) hS24)) rfl (after_M (Γ1 := [_, _, _]) hS24 (fun v39 G39 w39 hv39 hS39 => ?_))
     clear hS24
     obtain ⟨a39, b39, L39, s39, g39, rfl, rfl, hle39, hE39, hs39⟩ := hv39
     have hS40 : St _ _ [.blk k (.cells #[.map (some mb), .int .i64 (s39 : Int), .int .i64 ((0 : Nat) : Int), .int .i64 ((0 : Nat) : Int)] 60), .mp (.int .i64) mb (List.map nc L39), .fz g39, _] _ := hS39; clear hS39
     have hn39 := hn.snd' hs39
     have hgr39 := snd_grow hs39
     have hgl39 := hgr39.2.1; have hgs39 := hgr39.1; rw [absN_len, absN_len] at hgl39
     obtain ⟨ha39, hb39, hA39, hx39⟩ := snd_val hs39 (snd_full hyR (by rw [absN_len]; omega))
     refine hK _ _ ?_; clear hK K
     refine l_q rfl rfl (q_move rfl) ?_
     refine l_q rfl rfl (q_extract rfl rfl) ?_
     refine l_q rfl rfl (q_extract rfl rfl) ?_
     refine l_q rfl rfl (q_assignI rfl) ?_
     refine l_q rfl rfl (q_assignI rfl) ?_
     refine l_nil ?_
     refine hK38 _ _ ?_
     refine wp_seq_k (fun K41 hK41 => ?_)
     refine wp_region_lit ?_
     refine l_q rfl rfl (q_moveP rfl) ?_
     refine l_q rfl rfl (q_moveI rfl) ?_
     refine l_e rfl (fun K hK => ?_)
     refine e_call (by kernel_rfl) (twice_any k mb s39 0 0 L39 g39 hE39 hn39 (by omega) (((IntKind.i64.wrap (0 - (z + (1 : Int))))).tmod (1024 : Int)) _ (St.begin (Γ := [_, _, _]) hS40)) rfl (after_M (Γ1 := [_, _, _]) hS40 (fun v42 G42 w42 hv42 hS42 => ?_))
     clear hS40
     obtain ⟨a42, b42, L42, s42, g42, rfl, rfl, hle42, hE42, hs42⟩ := hv42
     have hS43 : St _ _ [.blk k (.cells #[.map (some mb), .int .i64 (s42 : Int), .int .i64 ((0 : Nat) : Int), .int .i64 ((0 : Nat) : Int)] 60), .mp (.int .i64) mb (List.map nc L42), .fz g42, _] _ := hS42; clear hS42
     have hn42 := (tw_grow hn39 hs42).2.2
     have hgr42 := tw_grow hn39 hs42
     have hgl42 := hgr42.2.1; have hgs42 := hgr42.1; rw [absN_len, absN_len] at hgl42
     have htr := tmod_rng (z := (IntKind.i64.wrap (0 - (z + (1 : Int))))) (by first | omega | (rw [wrap_in (by omega) (by omega)]; omega))
     have hmn : ((((IntKind.i64.wrap (0 - (z + (1 : Int))))).tmod (1024 : Int)), (Lr.mk l.k l.f l.t l.x [])) ∈ absN L39 := by rw [hA39, hal]; exact allL_mem (by omega) (by omega)
     obtain ⟨ha42, hb42, hA42, hx42⟩ := tw_val hs42 ((hn39.twN hmn).trans (snd_full hyR (by rw [absN_len]; omega)))
     have hmn2 := hmn; rw [← hA42] at hmn2
     refine hK _ _ ?_; clear hK K
     refine l_q rfl rfl (q_move rfl) ?_
     refine l_q rfl rfl (q_extract rfl rfl) ?_
     refine l_q rfl rfl (q_extract rfl rfl) ?_
     refine l_q rfl rfl (q_assignI rfl) ?_
     refine l_q rfl rfl (q_assignI rfl) ?_
     refine l_nil ?_
     refine hK41 _ _ ?_
     refine wp_seq_k (fun K44 hK44 => ?_)
     refine wp_region_lit ?_
     refine l_q rfl rfl (q_assignI rfl) ?_
     refine l_nil ?_
     refine hK44 _ _ ?_
     refine wp_seq_k (fun K45 hK45 => ?_)
     refine wp_seq_k (fun K46 hK46 => ?_)
     refine wp_region_lit ?_
     refine l_q rfl rfl (q_moveB rfl) ?_
     refine l_nil ?_
     refine hK46 _ _ ?_
     refine c_cond rfl (fun hc47 => ?_) (fun hc47 => ?_)
     ·
      have hc47b := hc47
      try simp only [decide_eq_true_eq, decide_eq_false_iff_not, Bool.not_eq_true', Bool.not_eq_false', Bool.and_eq_true, Bool.or_eq_true, Int.not_lt, Int.not_le, ne_eq, Decidable.not_not] at hc47
      refine wp_region_lit ?_
      refine l_q rfl rfl (q_moveP rfl) ?_
      refine l_q rfl rfl (q_moveI rfl) ?_
      refine l_e rfl (fun K hK => ?_)
      refine e_call (by kernel_rfl) (lose_any k mb s42 0 0 L42 g42 hE42 hn42 (by omega) (((IntKind.i64.wrap (0 - (z + (1 : Int))))).tmod (1024 : Int)) _ (St.begin (Γ := [_, _, _]) hS43)) rfl (after_M (Γ1 := [_, _, _]) hS43 (fun v48 G48 w48 hv48 hS48 => ?_))
      clear hS43
      obtain ⟨b48, rfl, rfl, hs48⟩ := hv48
      have hS49 : St _ _ [.blk k (.cells #[.map (some mb), .int .i64 (s42 : Int), .int .i64 ((0 : Nat) : Int), .int .i64 (((0 + ls (absN L42) (((IntKind.i64.wrap (0 - (z + (1 : Int))))).tmod (1024 : Int))) : Nat) : Int)] 60), .mp (.int .i64) mb (List.map nc (mdel L42 (((IntKind.i64.wrap (0 - (z + (1 : Int))))).tmod (1024 : Int)))), .fz g42, _] _ := hS48; clear hS48
      have hn48 : NumOk (absN (mdel L42 (((IntKind.i64.wrap (0 - (z + (1 : Int))))).tmod (1024 : Int)))) s42 := by rw [absN_del]; exact hn42.del _
      have hgl48 := ls_add (absN L42) (((IntKind.i64.wrap (0 - (z + (1 : Int))))).tmod (1024 : Int)); rw [← absN_del, absN_len, absN_len] at hgl48
      have hb48 : b48 = 0 := hs48.symm.trans (by rw [hn42.tkv hmn2])
      have hl148 := hn42.ls hmn2
      refine hK _ _ ?_; clear hK K
      refine l_q rfl rfl (q_assignI rfl) ?_
      refine l_nil ?_
      refine hK45 _ _ ?_
      refine wp_seq_k (fun K50 hK50 => ?_)
      refine wp_region_lit ?_
      refine l_q rfl rfl (q_moveP rfl) ?_
      refine l_q rfl rfl (q_loadA (m := 5) rfl (by kernel_rfl) (by kernel_rfl) (hS49.blk (i := 3) rfl) rfl rfl) ?_
      refine l_e rfl (fun K hK => ?_)
      refine e_call (by kernel_rfl) (send_any k mb s42 0 (0 + ls (absN L42) (((IntKind.i64.wrap (0 - (z + (1 : Int))))).tmod (1024 : Int))) (mdel L42 (((IntKind.i64.wrap (0 - (z + (1 : Int))))).tmod (1024 : Int))) g42 (EOk.del hE42 (((IntKind.i64.wrap (0 - (z + (1 : Int))))).tmod (1024 : Int))) hn48 (by omega) (Lr.mk l.k l.f l.t l.x []) 0 (by first | rfl | omega) (by omega) none 0 _ _ ((fun _ _ e => by cases e) : Rog [_, _, _] _ (fun _ => none)) SlG.nil (St.begin (Γ := [_, _, _]) hS49)) rfl (after_M (Γ1 := [_, _, _]) hS49 (fun v51 G51 w51 hv51 hS51 => ?_))
      clear hS49
      obtain ⟨a51, b51, L51, s51, g51, rfl, rfl, hle51, hE51, hs51⟩ := hv51
      have hS52 : St _ _ [.blk k (.cells #[.map (some mb), .int .i64 (s51 : Int), .int .i64 ((0 : Nat) : Int), .int .i64 (((0 + ls (absN L42) (((IntKind.i64.wrap (0 - (z + (1 : Int))))).tmod (1024 : Int))) : Nat) : Int)] 60), .mp (.int .i64) mb (List.map nc L51), .fz g51, _] _ := hS51; clear hS51
      have hn51 := hn48.snd' hs51
      have hgr51 := snd_grow hs51
      have hgl51 := hgr51.2.1; have hgs51 := hgr51.1; rw [absN_len, absN_len] at hgl51
      obtain ⟨ha51, hb51, hA51, hx51⟩ := snd_val hs51 (snd_ok hyR (by rw [absN_len]; omega))
      refine hK _ _ ?_; clear hK K
      refine l_q rfl rfl (q_move rfl) ?_
      refine l_q rfl rfl (q_extract rfl rfl) ?_
      refine l_q rfl rfl (q_extract rfl rfl) ?_
      refine l_q rfl rfl (q_assignI rfl) ?_
      refine l_q rfl rfl (q_assignI rfl) ?_
      refine l_nil ?_
      refine hK50 _ _ ?_
      refine wp_seq_k (fun K53 hK53 => ?_)
      refine wp_region_lit ?_
      refine l_e rfl (fun K hK => ?_)
      refine e_call (by kernel_rfl) (alive12_ok _) rfl (after_R hS52 (fun v54 w54 hv54 hS54 => ?_))
      clear hS52
      obtain rfl := hv54
      refine hK _ _ ?_; clear hK K
      refine l_q rfl rfl (q_moveB rfl) ?_
      refine l_on rfl rfl rfl ?_
      refine l_q rfl rfl (q_moveI rfl) ?_
      refine l_on rfl rfl rfl ?_
      refine l_q rfl rfl (q_eql rfl rfl) ?_
      refine l_q rfl rfl (q_pickT rfl rfl rfl) ?_
      refine l_q rfl rfl (q_moveB rfl) ?_
      refine g_splitL (t := 88) rfl (fun hg55 => ?_) (fun hg55 => ?_)
      ·
       have hg55b := hg55
       try simp only [decide_eq_true_eq, decide_eq_false_iff_not, Bool.not_eq_true', Bool.not_eq_false', Bool.and_eq_true, Bool.or_eq_true, Int.not_lt, Int.not_le, ne_eq, Decidable.not_not] at hg55
       refine l_on rfl rfl hg55b ?_
       refine l_q rfl rfl (q_moveI rfl) ?_
       refine l_on rfl rfl hg55b ?_
       refine l_q rfl rfl (q_eql rfl rfl) ?_
       refine l_q rfl rfl (q_pickT rfl hg55b rfl) ?_
       refine l_q rfl rfl (q_moveB rfl) ?_
       refine g_splitL (t := 92) rfl (fun hg56 => ?_) (fun hg56 => ?_)
       ·
        have hg56b := hg56
        try simp only [decide_eq_true_eq, decide_eq_false_iff_not, Bool.not_eq_true', Bool.not_eq_false', Bool.and_eq_true, Bool.or_eq_true, Int.not_lt, Int.not_le, ne_eq, Decidable.not_not] at hg56
        refine l_on rfl rfl hg56b ?_
        refine l_q rfl rfl (q_moveI rfl) ?_
        refine l_on rfl rfl hg56b ?_
        refine l_q rfl rfl (q_eql rfl rfl) ?_
        refine l_q rfl rfl (q_pickT rfl hg56b rfl) ?_
        refine l_q rfl rfl (q_moveB rfl) ?_
        refine g_splitL (t := 96) rfl (fun hg57 => ?_) (fun hg57 => ?_)
        ·
         have hg57b := hg57
         try simp only [decide_eq_true_eq, decide_eq_false_iff_not, Bool.not_eq_true', Bool.not_eq_false', Bool.and_eq_true, Bool.or_eq_true, Int.not_lt, Int.not_le, ne_eq, Decidable.not_not] at hg57
         refine l_on rfl rfl hg57b ?_
         refine l_q rfl rfl (q_moveI rfl) ?_
         refine l_on rfl rfl hg57b ?_
         refine l_q rfl rfl (q_eql rfl rfl) ?_
         refine l_q rfl rfl (q_pickT rfl hg57b rfl) ?_
         refine l_q rfl rfl (q_moveB rfl) ?_
         refine g_splitL (t := 100) rfl (fun hg58 => ?_) (fun hg58 => ?_)
         ·
          have hg58b := hg58
          try simp only [decide_eq_true_eq, decide_eq_false_iff_not, Bool.not_eq_true', Bool.not_eq_false', Bool.and_eq_true, Bool.or_eq_true, Int.not_lt, Int.not_le, ne_eq, Decidable.not_not] at hg58
          refine l_on rfl rfl hg58b ?_
          refine l_q rfl rfl (q_moveI rfl) ?_
          refine l_on rfl rfl hg58b ?_
          refine l_q rfl rfl (q_eql rfl rfl) ?_
          refine l_q rfl rfl (q_pickT rfl hg58b rfl) ?_
          refine l_q rfl rfl (q_assignB rfl) ?_
          refine l_nil ?_
          refine hK53 _ _ ?_
          refine wp_ret ?_
          refine c_ret1 rfl rfl ?_
          first | exact ⟨_, rfl, rfl, hS54.drop⟩ | exact ⟨_, rfl, congrArg Value.bool (decide_eq_true (by omega)), hS54.drop⟩
         ·
          have hg58b := hg58
          try simp only [decide_eq_true_eq, decide_eq_false_iff_not, Bool.not_eq_true', Bool.not_eq_false', Bool.and_eq_true, Bool.or_eq_true, Int.not_lt, Int.not_le, ne_eq, Decidable.not_not] at hg58
          exfalso; omega
        ·
         have hg57b := hg57
         try simp only [decide_eq_true_eq, decide_eq_false_iff_not, Bool.not_eq_true', Bool.not_eq_false', Bool.and_eq_true, Bool.or_eq_true, Int.not_lt, Int.not_le, ne_eq, Decidable.not_not] at hg57
         exfalso; omega
       ·
        have hg56b := hg56
        try simp only [decide_eq_true_eq, decide_eq_false_iff_not, Bool.not_eq_true', Bool.not_eq_false', Bool.and_eq_true, Bool.or_eq_true, Int.not_lt, Int.not_le, ne_eq, Decidable.not_not] at hg56
        exfalso; omega
      ·
       have hg55b := hg55
       try simp only [decide_eq_true_eq, decide_eq_false_iff_not, Bool.not_eq_true', Bool.not_eq_false', Bool.and_eq_true, Bool.or_eq_true, Int.not_lt, Int.not_le, ne_eq, Decidable.not_not] at hg55
       exfalso; omega
     ·
      have hc47b := hc47
      try simp only [decide_eq_true_eq, decide_eq_false_iff_not, Bool.not_eq_true', Bool.not_eq_false', Bool.and_eq_true, Bool.or_eq_true, Int.not_lt, Int.not_le, ne_eq, Decidable.not_not] at hc47
      refine wp_region_lit ?_
      refine l_q rfl rfl (q_moveP rfl) ?_
      refine l_q rfl rfl (q_moveI rfl) ?_
      refine l_e rfl (fun K hK => ?_)
      refine e_call (by kernel_rfl) (take_any k mb s42 0 0 L42 g42 hE42 hn42 (by omega) (((IntKind.i64.wrap (0 - (z + (1 : Int))))).tmod (1024 : Int)) _ (St.begin (Γ := [_, _, _]) hS43)) rfl (after_M (Γ1 := [_, _, _]) hS43 (fun v59 G59 w59 hv59 hS59 => ?_))
      clear hS43
      obtain ⟨l59, b59, an59, cn59, rfl, rfl, hs59⟩ := hv59
      have hS60 : St _ _ [.blk k (.cells #[.map (some mb), .int .i64 (s42 : Int), .int .i64 (((0 + ls (absN L42) (((IntKind.i64.wrap (0 - (z + (1 : Int))))).tmod (1024 : Int))) : Nat) : Int), .int .i64 ((0 : Nat) : Int)] 60), _, .fz g42, .ow 3 1 an59 l59.nd.length cn59 (iv l59.nd), _] _ := hS59; clear hS59
      have hn59 : NumOk (absN (mdel L42 (((IntKind.i64.wrap (0 - (z + (1 : Int))))).tmod (1024 : Int)))) s42 := by rw [absN_del]; exact hn42.del _
      have hgl59 := ls_add (absN L42) (((IntKind.i64.wrap (0 - (z + (1 : Int))))).tmod (1024 : Int)); rw [← absN_del, absN_len, absN_len] at hgl59
      obtain ⟨hv59, hb59⟩ := tk_val hs59 (hn42.tkv hmn2)
      have hl159 := hn42.ls hmn2
      refine hK _ _ ?_; clear hK K
      refine l_q rfl rfl (q_move rfl) ?_
      refine l_q rfl rfl (q_extract rfl rfl) ?_
      refine l_q rfl rfl (q_extract rfl rfl) ?_
      refine l_q rfl rfl (q_assignI rfl) ?_
      refine l_nil ?_
      refine hK45 _ _ ?_
      refine wp_seq_k (fun K61 hK61 => ?_)
      refine wp_region_lit ?_
      refine l_q rfl rfl (q_moveP rfl) ?_
      refine l_q rfl rfl (q_loadA (m := 5) rfl (by kernel_rfl) (by kernel_rfl) (hS60.blk (i := 4) rfl) rfl rfl) ?_
      refine l_e rfl (fun K hK => ?_)
      refine e_call (by kernel_rfl) (send_any k mb s42 (0 + ls (absN L42) (((IntKind.i64.wrap (0 - (z + (1 : Int))))).tmod (1024 : Int))) 0 (mdel L42 (((IntKind.i64.wrap (0 - (z + (1 : Int))))).tmod (1024 : Int))) g42 (EOk.del hE42 (((IntKind.i64.wrap (0 - (z + (1 : Int))))).tmod (1024 : Int))) hn59 (by omega) (Lr.mk l.k l.f l.t l.x []) 0 (by first | rfl | omega) (by omega) none 0 _ _ ((fun _ _ e => by cases e) : Rog [_, _, _] _ (fun _ => none)) SlG.nil (St.begin (Γ := [_, _, _]) hS60)) rfl (after_M (Γ1 := [_, _, _]) hS60 (fun v62 G62 w62 hv62 hS62 => ?_))
      clear hS60
      obtain ⟨a62, b62, L62, s62, g62, rfl, rfl, hle62, hE62, hs62⟩ := hv62
      have hS63 : St _ _ [.blk k (.cells #[.map (some mb), .int .i64 (s62 : Int), .int .i64 (((0 + ls (absN L42) (((IntKind.i64.wrap (0 - (z + (1 : Int))))).tmod (1024 : Int))) : Nat) : Int), .int .i64 ((0 : Nat) : Int)] 60), .mp (.int .i64) mb (List.map nc L62), .fz g62, _, _] _ := hS62; clear hS62
      have hn62 := hn59.snd' hs62
      have hgr62 := snd_grow hs62
      have hgl62 := hgr62.2.1; have hgs62 := hgr62.1; rw [absN_len, absN_len] at hgl62
      obtain ⟨ha62, hb62, hA62, hx62⟩ := snd_val hs62 (snd_ok hyR (by rw [absN_len]; omega))
      refine hK _ _ ?_; clear hK K
      refine l_q rfl rfl (q_move rfl) ?_
      refine l_q rfl rfl (q_extract rfl rfl) ?_
      refine l_q rfl rfl (q_extract rfl rfl) ?_
      refine l_q rfl rfl (q_assignI rfl) ?_
      refine l_q rfl rfl (q_assignI rfl) ?_
      refine l_nil ?_
      refine hK61 _ _ ?_
      refine wp_seq_k (fun K64 hK64 => ?_)
      refine wp_region_lit ?_
      refine l_e rfl (fun K hK => ?_)
      refine e_call (by kernel_rfl) (alive12_ok _) rfl (after_R hS63 (fun v65 w65 hv65 hS65 => ?_))
      clear hS63
      obtain rfl := hv65
      refine hK _ _ ?_; clear hK K
      refine l_q rfl rfl (q_moveB rfl) ?_
      refine l_on rfl rfl rfl ?_
      refine l_q rfl rfl (q_moveI rfl) ?_
      refine l_on rfl rfl rfl ?_
      refine l_q rfl rfl (q_eql rfl rfl) ?_
      refine l_q rfl rfl (q_pickT rfl rfl rfl) ?_
      refine l_q rfl rfl (q_moveB rfl) ?_
      refine g_splitL (t := 88) rfl (fun hg66 => ?_) (fun hg66 => ?_)
      ·
       have hg66b := hg66
       try simp only [decide_eq_true_eq, decide_eq_false_iff_not, Bool.not_eq_true', Bool.not_eq_false', Bool.and_eq_true, Bool.or_eq_true, Int.not_lt, Int.not_le, ne_eq, Decidable.not_not] at hg66
       refine l_on rfl rfl hg66b ?_
       refine l_q rfl rfl (q_moveI rfl) ?_
       refine l_on rfl rfl hg66b ?_
       refine l_q rfl rfl (q_eql rfl rfl) ?_
       refine l_q rfl rfl (q_pickT rfl hg66b rfl) ?_
       refine l_q rfl rfl (q_moveB rfl) ?_
       refine g_splitL (t := 92) rfl (fun hg67 => ?_) (fun hg67 => ?_)
       ·
        have hg67b := hg67
        try simp only [decide_eq_true_eq, decide_eq_false_iff_not, Bool.not_eq_true', Bool.not_eq_false', Bool.and_eq_true, Bool.or_eq_true, Int.not_lt, Int.not_le, ne_eq, Decidable.not_not] at hg67
        refine l_on rfl rfl hg67b ?_
        refine l_q rfl rfl (q_moveI rfl) ?_
        refine l_on rfl rfl hg67b ?_
        refine l_q rfl rfl (q_eql rfl rfl) ?_
        refine l_q rfl rfl (q_pickT rfl hg67b rfl) ?_
        refine l_q rfl rfl (q_moveB rfl) ?_
        refine g_splitL (t := 96) rfl (fun hg68 => ?_) (fun hg68 => ?_)
        ·
         have hg68b := hg68
         try simp only [decide_eq_true_eq, decide_eq_false_iff_not, Bool.not_eq_true', Bool.not_eq_false', Bool.and_eq_true, Bool.or_eq_true, Int.not_lt, Int.not_le, ne_eq, Decidable.not_not] at hg68
         refine l_on rfl rfl hg68b ?_
         refine l_q rfl rfl (q_moveI rfl) ?_
         refine l_on rfl rfl hg68b ?_
         refine l_q rfl rfl (q_eql rfl rfl) ?_
         refine l_q rfl rfl (q_pickT rfl hg68b rfl) ?_
         refine l_q rfl rfl (q_moveB rfl) ?_
         refine g_splitL (t := 100) rfl (fun hg69 => ?_) (fun hg69 => ?_)
         ·
          have hg69b := hg69
          try simp only [decide_eq_true_eq, decide_eq_false_iff_not, Bool.not_eq_true', Bool.not_eq_false', Bool.and_eq_true, Bool.or_eq_true, Int.not_lt, Int.not_le, ne_eq, Decidable.not_not] at hg69
          refine l_on rfl rfl hg69b ?_
          refine l_q rfl rfl (q_moveI rfl) ?_
          refine l_on rfl rfl hg69b ?_
          refine l_q rfl rfl (q_eql rfl rfl) ?_
          refine l_q rfl rfl (q_pickT rfl hg69b rfl) ?_
          refine l_q rfl rfl (q_assignB rfl) ?_
          refine l_nil ?_
          refine hK64 _ _ ?_
          refine wp_ret ?_
          refine c_ret1 rfl rfl ?_
          first | exact ⟨_, rfl, rfl, hS65.drop⟩ | exact ⟨_, rfl, congrArg Value.bool (decide_eq_true (by omega)), hS65.drop⟩
         ·
          have hg69b := hg69
          try simp only [decide_eq_true_eq, decide_eq_false_iff_not, Bool.not_eq_true', Bool.not_eq_false', Bool.and_eq_true, Bool.or_eq_true, Int.not_lt, Int.not_le, ne_eq, Decidable.not_not] at hg69
          exfalso; omega
        ·
         have hg68b := hg68
         try simp only [decide_eq_true_eq, decide_eq_false_iff_not, Bool.not_eq_true', Bool.not_eq_false', Bool.and_eq_true, Bool.or_eq_true, Int.not_lt, Int.not_le, ne_eq, Decidable.not_not] at hg68
         exfalso; omega
       ·
        have hg67b := hg67
        try simp only [decide_eq_true_eq, decide_eq_false_iff_not, Bool.not_eq_true', Bool.not_eq_false', Bool.and_eq_true, Bool.or_eq_true, Int.not_lt, Int.not_le, ne_eq, Decidable.not_not] at hg67
        exfalso; omega
      ·
       have hg66b := hg66
       try simp only [decide_eq_true_eq, decide_eq_false_iff_not, Bool.not_eq_true', Bool.not_eq_false', Bool.and_eq_true, Bool.or_eq_true, Int.not_lt, Int.not_le, ne_eq, Decidable.not_not] at hg66
       exfalso; omega
    ·
     have hc36b := hc36
     try simp only [decide_eq_true_eq, decide_eq_false_iff_not, Bool.not_eq_true', Bool.not_eq_false', Bool.and_eq_true, Bool.or_eq_true, Int.not_lt, Int.not_le, ne_eq, Decidable.not_not] at hc36
     refine wp_skip ?_
     refine hK34 _ _ ?_
     refine wp_seq_k (fun K70 hK70 => ?_)
     refine wp_region_lit ?_
     refine l_q rfl rfl (q_moveI rfl) ?_
     refine l_q rfl rfl (q_rem rfl rfl (by first | decide | omega)) ?_
     refine l_q rfl rfl (q_assignI rfl) ?_
     refine l_nil ?_
     refine hK70 _ _ ?_
     refine wp_seq_k (fun K71 hK71 => ?_)
     refine wp_region_lit ?_
     refine l_q rfl rfl (q_moveP rfl) ?_
     refine l_q rfl rfl (q_loadA (m := 5) rfl (by kernel_rfl) (by kernel_rfl) (hS24.blk (i := 3) rfl) rfl rfl) ?_
     refine l_e rfl (fun K hK => ?_)
     refine e_call (by kernel_rfl) (send_any k mb i 0 0 L g hE hn (by omega) (Lr.mk l.k l.f l.t l.x []) 0 (by first | rfl | omega) (by omega) none 0 _ _ ((fun _ _ e => by cases e) : Rog [_, _, _] _ (fun _ => none)) SlG.nil (St.begin (Γ := [_, _, _]) hS24)) rfl (after_M (Γ1 := [_, _, _]) hS24 (fun v72 G72 w72 hv72 hS72 => ?_))
     clear hS24
     obtain ⟨a72, b72, L72, s72, g72, rfl, rfl, hle72, hE72, hs72⟩ := hv72
     have hS73 : St _ _ [.blk k (.cells #[.map (some mb), .int .i64 (s72 : Int), .int .i64 ((0 : Nat) : Int), .int .i64 ((0 : Nat) : Int)] 60), .mp (.int .i64) mb (List.map nc L72), .fz g72, _] _ := hS72; clear hS72
     have hn72 := hn.snd' hs72
     have hgr72 := snd_grow hs72
     have hgl72 := hgr72.2.1; have hgs72 := hgr72.1; rw [absN_len, absN_len] at hgl72
     obtain ⟨ha72, hb72, hA72, hx72⟩ := snd_val hs72 (snd_full hyR (by rw [absN_len]; omega))
     refine hK _ _ ?_; clear hK K
     refine l_q rfl rfl (q_move rfl) ?_
     refine l_q rfl rfl (q_extract rfl rfl) ?_
     refine l_q rfl rfl (q_extract rfl rfl) ?_
     refine l_q rfl rfl (q_assignI rfl) ?_
     refine l_q rfl rfl (q_assignI rfl) ?_
     refine l_nil ?_
     refine hK71 _ _ ?_
     refine wp_seq_k (fun K74 hK74 => ?_)
     refine wp_region_lit ?_
     refine l_q rfl rfl (q_moveP rfl) ?_
     refine l_q rfl rfl (q_moveI rfl) ?_
     refine l_e rfl (fun K hK => ?_)
     refine e_call (by kernel_rfl) (twice_any k mb s72 0 0 L72 g72 hE72 hn72 (by omega) ((z).tmod (1024 : Int)) _ (St.begin (Γ := [_, _, _]) hS73)) rfl (after_M (Γ1 := [_, _, _]) hS73 (fun v75 G75 w75 hv75 hS75 => ?_))
     clear hS73
     obtain ⟨a75, b75, L75, s75, g75, rfl, rfl, hle75, hE75, hs75⟩ := hv75
     have hS76 : St _ _ [.blk k (.cells #[.map (some mb), .int .i64 (s75 : Int), .int .i64 ((0 : Nat) : Int), .int .i64 ((0 : Nat) : Int)] 60), .mp (.int .i64) mb (List.map nc L75), .fz g75, _] _ := hS75; clear hS75
     have hn75 := (tw_grow hn72 hs75).2.2
     have hgr75 := tw_grow hn72 hs75
     have hgl75 := hgr75.2.1; have hgs75 := hgr75.1; rw [absN_len, absN_len] at hgl75
     have htr := tmod_rng (z := z) (by first | omega | (rw [wrap_in (by omega) (by omega)]; omega))
     have hmn : (((z).tmod (1024 : Int)), (Lr.mk l.k l.f l.t l.x [])) ∈ absN L72 := by rw [hA72, hal]; exact allL_mem (by omega) (by omega)
     obtain ⟨ha75, hb75, hA75, hx75⟩ := tw_val hs75 ((hn72.twN hmn).trans (snd_full hyR (by rw [absN_len]; omega)))
     have hmn2 := hmn; rw [← hA75] at hmn2
     refine hK _ _ ?_; clear hK K
     refine l_q rfl rfl (q_move rfl) ?_
     refine l_q rfl rfl (q_extract rfl rfl) ?_
     refine l_q rfl rfl (q_extract rfl rfl) ?_
     refine l_q rfl rfl (q_assignI rfl) ?_
     refine l_q rfl rfl (q_assignI rfl) ?_
     refine l_nil ?_
     refine hK74 _ _ ?_
     refine wp_seq_k (fun K77 hK77 => ?_)
     refine wp_region_lit ?_
     refine l_q rfl rfl (q_assignI rfl) ?_
     refine l_nil ?_
     refine hK77 _ _ ?_
     refine wp_seq_k (fun K78 hK78 => ?_)
     refine wp_seq_k (fun K79 hK79 => ?_)
     refine wp_region_lit ?_
     refine l_q rfl rfl (q_moveB rfl) ?_
     refine l_nil ?_
     refine hK79 _ _ ?_
     refine c_cond rfl (fun hc80 => ?_) (fun hc80 => ?_)
     ·
      have hc80b := hc80
      try simp only [decide_eq_true_eq, decide_eq_false_iff_not, Bool.not_eq_true', Bool.not_eq_false', Bool.and_eq_true, Bool.or_eq_true, Int.not_lt, Int.not_le, ne_eq, Decidable.not_not] at hc80
      refine wp_region_lit ?_
      refine l_q rfl rfl (q_moveP rfl) ?_
      refine l_q rfl rfl (q_moveI rfl) ?_
      refine l_e rfl (fun K hK => ?_)
      refine e_call (by kernel_rfl) (lose_any k mb s75 0 0 L75 g75 hE75 hn75 (by omega) ((z).tmod (1024 : Int)) _ (St.begin (Γ := [_, _, _]) hS76)) rfl (after_M (Γ1 := [_, _, _]) hS76 (fun v81 G81 w81 hv81 hS81 => ?_))
      clear hS76
      obtain ⟨b81, rfl, rfl, hs81⟩ := hv81
      have hS82 : St _ _ [.blk k (.cells #[.map (some mb), .int .i64 (s75 : Int), .int .i64 ((0 : Nat) : Int), .int .i64 (((0 + ls (absN L75) ((z).tmod (1024 : Int))) : Nat) : Int)] 60), .mp (.int .i64) mb (List.map nc (mdel L75 ((z).tmod (1024 : Int)))), .fz g75, _] _ := hS81; clear hS81
      have hn81 : NumOk (absN (mdel L75 ((z).tmod (1024 : Int)))) s75 := by rw [absN_del]; exact hn75.del _
      have hgl81 := ls_add (absN L75) ((z).tmod (1024 : Int)); rw [← absN_del, absN_len, absN_len] at hgl81
      have hb81 : b81 = 0 := hs81.symm.trans (by rw [hn75.tkv hmn2])
      have hl181 := hn75.ls hmn2
      refine hK _ _ ?_; clear hK K
      refine l_q rfl rfl (q_assignI rfl) ?_
      refine l_nil ?_
      refine hK78 _ _ ?_
      refine wp_seq_k (fun K83 hK83 => ?_)
      refine wp_region_lit ?_
      refine l_q rfl rfl (q_moveP rfl) ?_
      refine l_q rfl rfl (q_loadA (m := 5) rfl (by kernel_rfl) (by kernel_rfl) (hS82.blk (i := 3) rfl) rfl rfl) ?_
      refine l_e rfl (fun K hK => ?_)
      refine e_call (by kernel_rfl) (send_any k mb s75 0 (0 + ls (absN L75) ((z).tmod (1024 : Int))) (mdel L75 ((z).tmod (1024 : Int))) g75 (EOk.del hE75 ((z).tmod (1024 : Int))) hn81 (by omega) (Lr.mk l.k l.f l.t l.x []) 0 (by first | rfl | omega) (by omega) none 0 _ _ ((fun _ _ e => by cases e) : Rog [_, _, _] _ (fun _ => none)) SlG.nil (St.begin (Γ := [_, _, _]) hS82)) rfl (after_M (Γ1 := [_, _, _]) hS82 (fun v84 G84 w84 hv84 hS84 => ?_))
      clear hS82
      obtain ⟨a84, b84, L84, s84, g84, rfl, rfl, hle84, hE84, hs84⟩ := hv84
      have hS85 : St _ _ [.blk k (.cells #[.map (some mb), .int .i64 (s84 : Int), .int .i64 ((0 : Nat) : Int), .int .i64 (((0 + ls (absN L75) ((z).tmod (1024 : Int))) : Nat) : Int)] 60), .mp (.int .i64) mb (List.map nc L84), .fz g84, _] _ := hS84; clear hS84
      have hn84 := hn81.snd' hs84
      have hgr84 := snd_grow hs84
      have hgl84 := hgr84.2.1; have hgs84 := hgr84.1; rw [absN_len, absN_len] at hgl84
      obtain ⟨ha84, hb84, hA84, hx84⟩ := snd_val hs84 (snd_ok hyR (by rw [absN_len]; omega))
      refine hK _ _ ?_; clear hK K
      refine l_q rfl rfl (q_move rfl) ?_
      refine l_q rfl rfl (q_extract rfl rfl) ?_
      refine l_q rfl rfl (q_extract rfl rfl) ?_
      refine l_q rfl rfl (q_assignI rfl) ?_
      refine l_q rfl rfl (q_assignI rfl) ?_
      refine l_nil ?_
      refine hK83 _ _ ?_
      refine wp_seq_k (fun K86 hK86 => ?_)
      refine wp_region_lit ?_
      refine l_e rfl (fun K hK => ?_)
      refine e_call (by kernel_rfl) (alive12_ok _) rfl (after_R hS85 (fun v87 w87 hv87 hS87 => ?_))
      clear hS85
      obtain rfl := hv87
      refine hK _ _ ?_; clear hK K
      refine l_q rfl rfl (q_moveB rfl) ?_
      refine l_on rfl rfl rfl ?_
      refine l_q rfl rfl (q_moveI rfl) ?_
      refine l_on rfl rfl rfl ?_
      refine l_q rfl rfl (q_eql rfl rfl) ?_
      refine l_q rfl rfl (q_pickT rfl rfl rfl) ?_
      refine l_q rfl rfl (q_moveB rfl) ?_
      refine g_splitL (t := 88) rfl (fun hg88 => ?_) (fun hg88 => ?_)
      ·
       have hg88b := hg88
       try simp only [decide_eq_true_eq, decide_eq_false_iff_not, Bool.not_eq_true', Bool.not_eq_false', Bool.and_eq_true, Bool.or_eq_true, Int.not_lt, Int.not_le, ne_eq, Decidable.not_not] at hg88
       refine l_on rfl rfl hg88b ?_
       refine l_q rfl rfl (q_moveI rfl) ?_
       refine l_on rfl rfl hg88b ?_
       refine l_q rfl rfl (q_eql rfl rfl) ?_
       refine l_q rfl rfl (q_pickT rfl hg88b rfl) ?_
       refine l_q rfl rfl (q_moveB rfl) ?_
       refine g_splitL (t := 92) rfl (fun hg89 => ?_) (fun hg89 => ?_)
       ·
        have hg89b := hg89
        try simp only [decide_eq_true_eq, decide_eq_false_iff_not, Bool.not_eq_true', Bool.not_eq_false', Bool.and_eq_true, Bool.or_eq_true, Int.not_lt, Int.not_le, ne_eq, Decidable.not_not] at hg89
        refine l_on rfl rfl hg89b ?_
        refine l_q rfl rfl (q_moveI rfl) ?_
        refine l_on rfl rfl hg89b ?_
        refine l_q rfl rfl (q_eql rfl rfl) ?_
        refine l_q rfl rfl (q_pickT rfl hg89b rfl) ?_
        refine l_q rfl rfl (q_moveB rfl) ?_
        refine g_splitL (t := 96) rfl (fun hg90 => ?_) (fun hg90 => ?_)
        ·
         have hg90b := hg90
         try simp only [decide_eq_true_eq, decide_eq_false_iff_not, Bool.not_eq_true', Bool.not_eq_false', Bool.and_eq_true, Bool.or_eq_true, Int.not_lt, Int.not_le, ne_eq, Decidable.not_not] at hg90
         refine l_on rfl rfl hg90b ?_
         refine l_q rfl rfl (q_moveI rfl) ?_
         refine l_on rfl rfl hg90b ?_
         refine l_q rfl rfl (q_eql rfl rfl) ?_
         refine l_q rfl rfl (q_pickT rfl hg90b rfl) ?_
         refine l_q rfl rfl (q_moveB rfl) ?_
         refine g_splitL (t := 100) rfl (fun hg91 => ?_) (fun hg91 => ?_)
         ·
          have hg91b := hg91
          try simp only [decide_eq_true_eq, decide_eq_false_iff_not, Bool.not_eq_true', Bool.not_eq_false', Bool.and_eq_true, Bool.or_eq_true, Int.not_lt, Int.not_le, ne_eq, Decidable.not_not] at hg91
          refine l_on rfl rfl hg91b ?_
          refine l_q rfl rfl (q_moveI rfl) ?_
          refine l_on rfl rfl hg91b ?_
          refine l_q rfl rfl (q_eql rfl rfl) ?_
          refine l_q rfl rfl (q_pickT rfl hg91b rfl) ?_
          refine l_q rfl rfl (q_assignB rfl) ?_
          refine l_nil ?_
          refine hK86 _ _ ?_
          refine wp_ret ?_
          refine c_ret1 rfl rfl ?_
          first | exact ⟨_, rfl, rfl, hS87.drop⟩ | exact ⟨_, rfl, congrArg Value.bool (decide_eq_true (by omega)), hS87.drop⟩
         ·
          have hg91b := hg91
          try simp only [decide_eq_true_eq, decide_eq_false_iff_not, Bool.not_eq_true', Bool.not_eq_false', Bool.and_eq_true, Bool.or_eq_true, Int.not_lt, Int.not_le, ne_eq, Decidable.not_not] at hg91
          exfalso; omega
        ·
         have hg90b := hg90
         try simp only [decide_eq_true_eq, decide_eq_false_iff_not, Bool.not_eq_true', Bool.not_eq_false', Bool.and_eq_true, Bool.or_eq_true, Int.not_lt, Int.not_le, ne_eq, Decidable.not_not] at hg90
         exfalso; omega
       ·
        have hg89b := hg89
        try simp only [decide_eq_true_eq, decide_eq_false_iff_not, Bool.not_eq_true', Bool.not_eq_false', Bool.and_eq_true, Bool.or_eq_true, Int.not_lt, Int.not_le, ne_eq, Decidable.not_not] at hg89
        exfalso; omega
      ·
       have hg88b := hg88
       try simp only [decide_eq_true_eq, decide_eq_false_iff_not, Bool.not_eq_true', Bool.not_eq_false', Bool.and_eq_true, Bool.or_eq_true, Int.not_lt, Int.not_le, ne_eq, Decidable.not_not] at hg88
       exfalso; omega
     ·
      have hc80b := hc80
      try simp only [decide_eq_true_eq, decide_eq_false_iff_not, Bool.not_eq_true', Bool.not_eq_false', Bool.and_eq_true, Bool.or_eq_true, Int.not_lt, Int.not_le, ne_eq, Decidable.not_not] at hc80
      refine wp_region_lit ?_
      refine l_q rfl rfl (q_moveP rfl) ?_
      refine l_q rfl rfl (q_moveI rfl) ?_
      refine l_e rfl (fun K hK => ?_)
      refine e_call (by kernel_rfl) (take_any k mb s75 0 0 L75 g75 hE75 hn75 (by omega) ((z).tmod (1024 : Int)) _ (St.begin (Γ := [_, _, _]) hS76)) rfl (after_M (Γ1 := [_, _, _]) hS76 (fun v92 G92 w92 hv92 hS92 => ?_))
      clear hS76
      obtain ⟨l92, b92, an92, cn92, rfl, rfl, hs92⟩ := hv92
      have hS93 : St _ _ [.blk k (.cells #[.map (some mb), .int .i64 (s75 : Int), .int .i64 (((0 + ls (absN L75) ((z).tmod (1024 : Int))) : Nat) : Int), .int .i64 ((0 : Nat) : Int)] 60), _, .fz g75, .ow 3 1 an92 l92.nd.length cn92 (iv l92.nd), _] _ := hS92; clear hS92
      have hn92 : NumOk (absN (mdel L75 ((z).tmod (1024 : Int)))) s75 := by rw [absN_del]; exact hn75.del _
      have hgl92 := ls_add (absN L75) ((z).tmod (1024 : Int)); rw [← absN_del, absN_len, absN_len] at hgl92
      obtain ⟨hv92, hb92⟩ := tk_val hs92 (hn75.tkv hmn2)
      have hl192 := hn75.ls hmn2
      refine hK _ _ ?_; clear hK K
      refine l_q rfl rfl (q_move rfl) ?_
      refine l_q rfl rfl (q_extract rfl rfl) ?_
      refine l_q rfl rfl (q_extract rfl rfl) ?_
      refine l_q rfl rfl (q_assignI rfl) ?_
      refine l_nil ?_
      refine hK78 _ _ ?_
      refine wp_seq_k (fun K94 hK94 => ?_)
      refine wp_region_lit ?_
      refine l_q rfl rfl (q_moveP rfl) ?_
      refine l_q rfl rfl (q_loadA (m := 5) rfl (by kernel_rfl) (by kernel_rfl) (hS93.blk (i := 4) rfl) rfl rfl) ?_
      refine l_e rfl (fun K hK => ?_)
      refine e_call (by kernel_rfl) (send_any k mb s75 (0 + ls (absN L75) ((z).tmod (1024 : Int))) 0 (mdel L75 ((z).tmod (1024 : Int))) g75 (EOk.del hE75 ((z).tmod (1024 : Int))) hn92 (by omega) (Lr.mk l.k l.f l.t l.x []) 0 (by first | rfl | omega) (by omega) none 0 _ _ ((fun _ _ e => by cases e) : Rog [_, _, _] _ (fun _ => none)) SlG.nil (St.begin (Γ := [_, _, _]) hS93)) rfl (after_M (Γ1 := [_, _, _]) hS93 (fun v95 G95 w95 hv95 hS95 => ?_))
      clear hS93
      obtain ⟨a95, b95, L95, s95, g95, rfl, rfl, hle95, hE95, hs95⟩ := hv95
      have hS96 : St _ _ [.blk k (.cells #[.map (some mb), .int .i64 (s95 : Int), .int .i64 (((0 + ls (absN L75) ((z).tmod (1024 : Int))) : Nat) : Int), .int .i64 ((0 : Nat) : Int)] 60), .mp (.int .i64) mb (List.map nc L95), .fz g95, _, _] _ := hS95; clear hS95
      have hn95 := hn92.snd' hs95
      have hgr95 := snd_grow hs95
      have hgl95 := hgr95.2.1; have hgs95 := hgr95.1; rw [absN_len, absN_len] at hgl95
      obtain ⟨ha95, hb95, hA95, hx95⟩ := snd_val hs95 (snd_ok hyR (by rw [absN_len]; omega))
      refine hK _ _ ?_; clear hK K
      refine l_q rfl rfl (q_move rfl) ?_
      refine l_q rfl rfl (q_extract rfl rfl) ?_
      refine l_q rfl rfl (q_extract rfl rfl) ?_
      refine l_q rfl rfl (q_assignI rfl) ?_
      refine l_q rfl rfl (q_assignI rfl) ?_
      refine l_nil ?_
      refine hK94 _ _ ?_
      refine wp_seq_k (fun K97 hK97 => ?_)
      refine wp_region_lit ?_
      refine l_e rfl (fun K hK => ?_)
      refine e_call (by kernel_rfl) (alive12_ok _) rfl (after_R hS96 (fun v98 w98 hv98 hS98 => ?_))
      clear hS96
      obtain rfl := hv98
      refine hK _ _ ?_; clear hK K
      refine l_q rfl rfl (q_moveB rfl) ?_
      refine l_on rfl rfl rfl ?_
      refine l_q rfl rfl (q_moveI rfl) ?_
      refine l_on rfl rfl rfl ?_
      refine l_q rfl rfl (q_eql rfl rfl) ?_
      refine l_q rfl rfl (q_pickT rfl rfl rfl) ?_
      refine l_q rfl rfl (q_moveB rfl) ?_
      refine g_splitL (t := 88) rfl (fun hg99 => ?_) (fun hg99 => ?_)
      ·
       have hg99b := hg99
       try simp only [decide_eq_true_eq, decide_eq_false_iff_not, Bool.not_eq_true', Bool.not_eq_false', Bool.and_eq_true, Bool.or_eq_true, Int.not_lt, Int.not_le, ne_eq, Decidable.not_not] at hg99
       refine l_on rfl rfl hg99b ?_
       refine l_q rfl rfl (q_moveI rfl) ?_
       refine l_on rfl rfl hg99b ?_
       refine l_q rfl rfl (q_eql rfl rfl) ?_
       refine l_q rfl rfl (q_pickT rfl hg99b rfl) ?_
       refine l_q rfl rfl (q_moveB rfl) ?_
       refine g_splitL (t := 92) rfl (fun hg100 => ?_) (fun hg100 => ?_)
       ·
        have hg100b := hg100
        try simp only [decide_eq_true_eq, decide_eq_false_iff_not, Bool.not_eq_true', Bool.not_eq_false', Bool.and_eq_true, Bool.or_eq_true, Int.not_lt, Int.not_le, ne_eq, Decidable.not_not] at hg100
        refine l_on rfl rfl hg100b ?_
        refine l_q rfl rfl (q_moveI rfl) ?_
        refine l_on rfl rfl hg100b ?_
        refine l_q rfl rfl (q_eql rfl rfl) ?_
        refine l_q rfl rfl (q_pickT rfl hg100b rfl) ?_
        refine l_q rfl rfl (q_moveB rfl) ?_
        refine g_splitL (t := 96) rfl (fun hg101 => ?_) (fun hg101 => ?_)
        ·
         have hg101b := hg101
         try simp only [decide_eq_true_eq, decide_eq_false_iff_not, Bool.not_eq_true', Bool.not_eq_false', Bool.and_eq_true, Bool.or_eq_true, Int.not_lt, Int.not_le, ne_eq, Decidable.not_not] at hg101
         refine l_on rfl rfl hg101b ?_
         refine l_q rfl rfl (q_moveI rfl) ?_
         refine l_on rfl rfl hg101b ?_
         refine l_q rfl rfl (q_eql rfl rfl) ?_
         refine l_q rfl rfl (q_pickT rfl hg101b rfl) ?_
         refine l_q rfl rfl (q_moveB rfl) ?_
         refine g_splitL (t := 100) rfl (fun hg102 => ?_) (fun hg102 => ?_)
         ·
          have hg102b := hg102
          try simp only [decide_eq_true_eq, decide_eq_false_iff_not, Bool.not_eq_true', Bool.not_eq_false', Bool.and_eq_true, Bool.or_eq_true, Int.not_lt, Int.not_le, ne_eq, Decidable.not_not] at hg102
          refine l_on rfl rfl hg102b ?_
          refine l_q rfl rfl (q_moveI rfl) ?_
          refine l_on rfl rfl hg102b ?_
          refine l_q rfl rfl (q_eql rfl rfl) ?_
          refine l_q rfl rfl (q_pickT rfl hg102b rfl) ?_
          refine l_q rfl rfl (q_assignB rfl) ?_
          refine l_nil ?_
          refine hK97 _ _ ?_
          refine wp_ret ?_
          refine c_ret1 rfl rfl ?_
          first | exact ⟨_, rfl, rfl, hS98.drop⟩ | exact ⟨_, rfl, congrArg Value.bool (decide_eq_true (by omega)), hS98.drop⟩
         ·
          have hg102b := hg102
          try simp only [decide_eq_true_eq, decide_eq_false_iff_not, Bool.not_eq_true', Bool.not_eq_false', Bool.and_eq_true, Bool.or_eq_true, Int.not_lt, Int.not_le, ne_eq, Decidable.not_not] at hg102
          exfalso; omega
        ·
         have hg101b := hg101
         try simp only [decide_eq_true_eq, decide_eq_false_iff_not, Bool.not_eq_true', Bool.not_eq_false', Bool.and_eq_true, Bool.or_eq_true, Int.not_lt, Int.not_le, ne_eq, Decidable.not_not] at hg101
         exfalso; omega
       ·
        have hg100b := hg100
        try simp only [decide_eq_true_eq, decide_eq_false_iff_not, Bool.not_eq_true', Bool.not_eq_false', Bool.and_eq_true, Bool.or_eq_true, Int.not_lt, Int.not_le, ne_eq, Decidable.not_not] at hg100
        exfalso; omega
      ·
       have hg99b := hg99
       try simp only [decide_eq_true_eq, decide_eq_false_iff_not, Bool.not_eq_true', Bool.not_eq_false', Bool.and_eq_true, Bool.or_eq_true, Int.not_lt, Int.not_le, ne_eq, Decidable.not_not] at hg99
       exfalso; omega

end Go.Proofs.Ytlplhlncdfhhoaa
