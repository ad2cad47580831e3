/- The catalog: bounds, what is right. -/
import Derived.Test.YtmemgpcgjephmaaGreatDoorCa
set_option linter.unusedVariables false
set_option linter.unusedSimpArgs false
namespace Go.Proofs.YtmemgpcgjephmaaGreatDoor
open Go.RowKit
theorem cright_split {t : Tb} {v : Value} {G : List Ch} (h : ∃ c a, RtA t c a ∧ ErV c a v G) : (RtP t → v = .nilIface ∧ G = []) ∧ (¬RtP t → ∃ p b, RtA t 182 p ∧ v = fV b ∧ G = [.blk b (fO 182 p .nilIface)]) := by
  obtain ⟨c, a, h1, h2⟩ := h
  refine ⟨fun hp => ?_, fun hp => ?_⟩
  · obtain ⟨rfl, rfl⟩ := h1.yes hp
    rcases h2 with ⟨_, h3, h4⟩ | ⟨h3, _⟩
    · exact ⟨h3, h4⟩
    · exact absurd rfl h3
  · obtain rfl := h1.no hp
    rcases h2 with ⟨h3, _⟩ | ⟨_, b, h3, h4⟩
    · cases h3
    · exact ⟨a, b, h1, h3, h4⟩
theorem bd_kd {t : Tb} {c : Co} {k : Int} (h : t.cs[0]? = some c) (hk : k = c.k) : k = k0 t.cs := by rw [k0_at h]; exact hk
attribute [local irreducible] Oper.wp Sem.run Code.wp wpList wpAnyO callFunc execOp Calls
attribute [local irreducible] toU enc encR rightB vcmp pB okc hashB hashF overN

set_option maxHeartbeats 2000000 in
set_option maxRecDepth 100000 in
theorem bounds_ok (t : Tb) (htn : Bytes t.nm) (htc : CsOk t.cs) (htb : VsOk t.bd) (nc nb : Nat) (hnc : t.cs.length = nc) (hnb : t.bd.length = nb) (hmc : nc ≤ 2000000) (hmb : nb ≤ 2000000) (h1 : 1 ≤ nc) (ca ba : Option Addr) (cca cba : Nat) (w : World) (hCG : SlG (hw w) ca (List.flatMap cc t.cs)) (hBG : SlG (hw w) ba (List.flatMap vl t.bd)) : Calls Tryz.prog 35 #[.agg #[.string (bs t.nm), .slice ca nc cca, .int .i64 t.key, .int .i64 t.pt, .slice ba nb cba]] w (PostR w fun v => v = .bool (pB (BdP (k0 t.cs) t.bd))) := by
 have hS := St.start w
 subst hnc hnb
 refine c_enter Tryz.func35 rfl rfl rfl ?_
 refine wp_seq_k (fun K1 hK1 => ?_)
 refine wp_region_lit ?_
 refine l_e rfl (fun K hK => ?_)
 refine e_boxA hS rfl (fun b2 w2 (hS2 : St _ _ [.blk b2 (.cells #[.string (bs t.nm), .slice ca t.cs.length cca, .int .i64 t.key, .int .i64 t.pt, .slice ba t.bd.length cba] 25)] _) => ?_)
 clear hS
 refine hK _ _ ?_; clear hK K
 refine l_q rfl rfl (q_assignB rfl) ?_
 refine l_nil ?_
 refine hK1 _ _ ?_
 refine wp_seq_k (fun K3 hK3 => ?_)
 refine wp_seq_k (fun K4 hK4 => ?_)
 refine wp_region_lit ?_
 refine l_q rfl rfl (q_fieldAddr (ft := 23) (o := 4) rfl (by kernel_rfl)) ?_
 refine l_q rfl rfl (q_load1 rfl (by kernel_rfl) (hS2.cell (i := 0) rfl rfl)) ?_
 refine l_q rfl rfl (q_lenSl (e := 59) rfl (by kernel_rfl)) ?_
 refine l_q rfl rfl (q_moveI rfl) ?_
 refine l_nil ?_
 refine hK4 _ _ ?_
 refine wp_block ?_
 refine c_loop (τ := Nat) [(2, 4), (8, 41)] (fun x => (fun (i : Nat) => [(8, .int .i64 (i : Int))]) x) (fun x w' => (fun (i : Nat) => St w (fun _ => False) [.blk b2 (.cells #[.string (bs t.nm), .slice ca t.cs.length cca, .int .i64 t.key, .int .i64 t.pt, .slice ba t.bd.length cba] 25)] w' ∧ i ≤ t.bd.length ∧ BdTo (k0 t.cs) t.bd i) x) (fun x => (fun (i : Nat) => t.bd.length - i) x) (0) ?_ (by repeat' (first | exact trivial | refine ⟨by first | rfl | exact int_succ _ | assumption, ?_⟩)) (fun i j5 w5 hJ5 K5 hK5 => ?_)
 ·
  exact ⟨hS2, Nat.zero_le _, BdTo.zero _ _⟩
 ·
  obtain ⟨hS5, hi, hk⟩ := hJ5
  try dsimp only at hS5 hi hk ⊢
  refine wp_seq_k (fun K6 hK6 => ?_)
  refine wp_region_lit ?_
  refine l_q rfl rfl (q_lss rfl rfl) ?_
  refine l_nil ?_
  refine hK6 _ _ ?_
  refine wp_seq_k (fun K7 hK7 => ?_)
  refine c_cond rfl (fun hc8 => ?_) (fun hc8 => ?_)
  ·
   have hc8b := hc8
   try simp only [decide_eq_true_eq, decide_eq_false_iff_not, Bool.not_eq_true', Bool.not_eq_false', Bool.and_eq_true, Bool.or_eq_true, Int.not_lt, Int.not_le, ne_eq, Decidable.not_not] at hc8
   refine wp_skip ?_
   refine hK7 _ _ ?_
   refine wp_seq_k (fun K9 hK9 => ?_)
   refine wp_block ?_
   refine wp_seq_k (fun K10 hK10 => ?_)
   refine wp_region_lit ?_
   refine l_q rfl rfl (q_moveI rfl) ?_
   refine l_q rfl rfl (q_ixG (e := 59) (m := 3) (j := i) rfl rfl (by kernel_rfl) (by kernel_rfl) (by first | rfl | omega) (by omega) hBG (by rw [rows_len (c := vl) (m := 3) (fun _ => rfl)]; first | omega | (simp only [lls] <;> omega))) ?_
   obtain ⟨x11, hx11⟩ : ∃ x, (t.bd)[i]? = some x := ⟨_, List.getElem?_eq_getElem (by first | omega | (simp only [lls] <;> omega) | (simp <;> omega))⟩
   have hvb_x11 := (htb x11 (List.mem_of_getElem? hx11)).2
   refine l_q rfl rfl (q_loadGA (m := 3) rfl (by kernel_rfl) (by kernel_rfl) (hBG.mono hS5.base) (row_take hx11 (c := vl) (m := 3) (fun _ => rfl)) rfl (by decide)) ?_
   refine l_e rfl (fun K hK => ?_)
   refine e_alloc (zv := .agg #[.int .i64 0, .int .i64 0, .string ⟨#[]⟩]) hS5 (by kernel_rfl) (fun b12 w12 (hS12 : St _ _ [.blk b12 (.cells #[.int .i64 (0 : Int), .int .i64 (0 : Int), .string (bs [])] 59), _] _) => ?_)
   clear hS5
   refine hK _ _ ?_; clear hK K
   refine l_q rfl rfl (q_assignI rfl) ?_
   refine l_e rfl (fun K hK => ?_)
   refine e_storeA hS12 rfl rfl (by kernel_rfl) (by repeat' (first | exact trivial | refine ⟨by first | rfl | assumption | exact one_if (by assumption), ?_⟩)) (i := 0) rfl rfl (fun w13 (hS13 : St _ _ [.blk b12 (.cells #[.int .i64 x11.1, .int .i64 x11.2.1, .string (bs x11.2.2)] 59), _] _) => ?_)
   clear hS12
   refine hK _ _ ?_; clear hK K
   refine l_nil ?_
   refine hK10 _ _ ?_
   refine wp_seq_k (fun K14 hK14 => ?_)
   refine r_any (by kernel_rfl) hS13 (fun w15 hS15 => ?_)
   clear hS13
   refine o_held (i := 0) [1, 2, 3, 4, 5, 6, 7, 8, 9, 10, 11, 12, 13, 14, 15, 16, 17, 18, 19, 20, 21, 22, 23, 24, 25, 26, 27] (fun _ _ => trivial) rfl rfl (by kernel_rfl) (goes0 rfl) (QOk.then (QOk.inBlock (QOk.then (QOk.then (QOk.inBlock (QOk.then QOk.body)))))) (q_loadA (m := 3) rfl (by kernel_rfl) (by kernel_rfl) (hS15.blk (i := 0) rfl) rfl rfl) ?_
   refine o_eff (i := 1) (by kernel_rfl) rfl (goes0 rfl) (fun K hK => ?_)
   refine e_call (by kernel_rfl) (right_ok x11 (htb x11 (List.mem_of_getElem? hx11)).1 _) rfl (after_R hS15 (fun v16 w16 hv16 hS16 => ?_))
   clear hS15
   obtain rfl := hv16
   refine hK _ _ ⟨trivial, fun h => absurd h (by decide)⟩ ?_; clear hK K
   refine o_pure (i := 2) (fun j w => ⟨(fun _ _ => trivial) j w, fun _ h => h⟩) rfl rfl (by kernel_rfl) (goes0 rfl) (QOk.then (QOk.inBlock (QOk.then (QOk.then (QOk.inBlock (QOk.then QOk.body)))))) (fun w => q_not rfl) ?_
   refine o_pure (i := 3) (fun j w => ⟨(fun _ _ => trivial) j w, fun _ h => h⟩) rfl rfl (by kernel_rfl) (goes0 rfl) (QOk.then (QOk.inBlock (QOk.then (QOk.then (QOk.inBlock (QOk.then QOk.body)))))) (fun w => q_moveB rfl) ?_
   refine g_splitO (t := 16) rfl (fun hg17 => ?_) (fun hg17 => ?_)
   ·
    have hg17b := hg17
    try simp only [decide_eq_true_eq, decide_eq_false_iff_not, Bool.not_eq_true', Bool.not_eq_false', Bool.and_eq_true, Bool.or_eq_true, Int.not_lt, Int.not_le, ne_eq, Decidable.not_not] at hg17
    refine o_off (i := 4) (fun j w => ⟨(fun _ _ => trivial) j w, fun _ h => h⟩) rfl rfl (by kernel_rfl) rfl rfl hg17b (QOk.then (QOk.inBlock (QOk.then (QOk.then (QOk.inBlock (QOk.then QOk.body)))))) ?_
    refine o_off (i := 5) (fun j w => ⟨(fun _ _ => trivial) j w, fun _ h => h⟩) rfl rfl (by kernel_rfl) rfl rfl hg17b (QOk.then (QOk.inBlock (QOk.then (QOk.then (QOk.inBlock (QOk.then QOk.body)))))) ?_
    refine o_off (i := 6) (fun j w => ⟨(fun _ _ => trivial) j w, fun _ h => h⟩) rfl rfl (by kernel_rfl) rfl rfl hg17b (QOk.then (QOk.inBlock (QOk.then (QOk.then (QOk.inBlock (QOk.then QOk.body)))))) ?_
    refine o_off (i := 7) (fun j w => ⟨(fun _ _ => trivial) j w, fun _ h => h⟩) rfl rfl (by kernel_rfl) rfl rfl hg17b (QOk.then (QOk.inBlock (QOk.then (QOk.then (QOk.inBlock (QOk.then QOk.body)))))) ?_
    refine o_off (i := 8) (fun j w => ⟨(fun _ _ => trivial) j w, fun _ h => h⟩) rfl rfl (by kernel_rfl) rfl rfl hg17b (QOk.then (QOk.inBlock (QOk.then (QOk.then (QOk.inBlock (QOk.then QOk.body)))))) ?_
    refine o_off (i := 9) (fun j w => ⟨(fun _ _ => trivial) j w, fun _ h => h⟩) rfl rfl (by kernel_rfl) rfl rfl hg17b (QOk.then (QOk.inBlock (QOk.then (QOk.then (QOk.inBlock (QOk.then QOk.body)))))) ?_
    refine o_off (i := 10) (fun j w => ⟨(fun _ _ => trivial) j w, fun _ h => h⟩) rfl rfl (by kernel_rfl) rfl rfl hg17b (QOk.then (QOk.inBlock (QOk.then (QOk.then (QOk.inBlock (QOk.then QOk.body)))))) ?_
    refine o_off (i := 11) (fun j w => ⟨(fun _ _ => trivial) j w, fun _ h => h⟩) rfl rfl (by kernel_rfl) rfl rfl hg17b (QOk.then (QOk.inBlock (QOk.then (QOk.then (QOk.inBlock (QOk.then QOk.body)))))) ?_
    refine o_pure (i := 12) (fun j w => ⟨(fun _ _ => trivial) j w, fun _ h => h⟩) rfl rfl (by kernel_rfl) (goes0 rfl) (QOk.then (QOk.inBlock (QOk.then (QOk.then (QOk.inBlock (QOk.then QOk.body)))))) (fun w => q_pickT rfl hg17b rfl) ?_
    refine o_pure (i := 13) (fun j w => ⟨(fun _ _ => trivial) j w, fun _ h => h⟩) rfl rfl (by kernel_rfl) (goes0 rfl) (QOk.then (QOk.inBlock (QOk.then (QOk.then (QOk.inBlock (QOk.then QOk.body)))))) (fun w => q_moveB rfl) ?_
    refine o_off (i := 14) (fun j w => ⟨(fun _ _ => trivial) j w, fun _ h => h⟩) rfl rfl (by kernel_rfl) rfl rfl rfl (QOk.then (QOk.inBlock (QOk.then (QOk.then (QOk.inBlock (QOk.then QOk.body)))))) ?_
    refine o_off (i := 15) (fun j w => ⟨(fun _ _ => trivial) j w, fun _ h => h⟩) rfl rfl (by kernel_rfl) rfl rfl rfl (QOk.then (QOk.inBlock (QOk.then (QOk.then (QOk.inBlock (QOk.then QOk.body)))))) ?_
    refine o_off (i := 16) (fun j w => ⟨(fun _ _ => trivial) j w, fun _ h => h⟩) rfl rfl (by kernel_rfl) rfl rfl rfl (QOk.then (QOk.inBlock (QOk.then (QOk.then (QOk.inBlock (QOk.then QOk.body)))))) ?_
    refine o_offN (i := 17) (fun j w => ⟨(fun _ _ => trivial) j w, fun _ h => h⟩) rfl rfl (by kernel_rfl) rfl rfl (QOk.then (QOk.inBlock (QOk.then (QOk.then (QOk.inBlock (QOk.then QOk.body)))))) ?_
    refine o_offN (i := 18) (fun j w => ⟨(fun _ _ => trivial) j w, fun _ h => h⟩) rfl rfl (by kernel_rfl) rfl rfl (QOk.then (QOk.inBlock (QOk.then (QOk.then (QOk.inBlock (QOk.then QOk.body)))))) ?_
    refine o_offN (i := 19) (fun j w => ⟨(fun _ _ => trivial) j w, fun _ h => h⟩) rfl rfl (by kernel_rfl) rfl rfl (QOk.then (QOk.inBlock (QOk.then (QOk.then (QOk.inBlock (QOk.then QOk.body)))))) ?_
    refine o_offN (i := 20) (fun j w => ⟨(fun _ _ => trivial) j w, fun _ h => h⟩) rfl rfl (by kernel_rfl) rfl rfl (QOk.then (QOk.inBlock (QOk.then (QOk.then (QOk.inBlock (QOk.then QOk.body)))))) ?_
    refine o_offN (i := 21) (fun j w => ⟨(fun _ _ => trivial) j w, fun _ h => h⟩) rfl rfl (by kernel_rfl) rfl rfl (QOk.then (QOk.inBlock (QOk.then (QOk.then (QOk.inBlock (QOk.then QOk.body)))))) ?_
    refine o_offN (i := 22) (fun j w => ⟨(fun _ _ => trivial) j w, fun _ h => h⟩) rfl rfl (by kernel_rfl) rfl rfl (QOk.then (QOk.inBlock (QOk.then (QOk.then (QOk.inBlock (QOk.then QOk.body)))))) ?_
    refine o_offN (i := 23) (fun j w => ⟨(fun _ _ => trivial) j w, fun _ h => h⟩) rfl rfl (by kernel_rfl) rfl rfl (QOk.then (QOk.inBlock (QOk.then (QOk.then (QOk.inBlock (QOk.then QOk.body)))))) ?_
    refine o_offN (i := 24) (fun j w => ⟨(fun _ _ => trivial) j w, fun _ h => h⟩) rfl rfl (by kernel_rfl) rfl rfl (QOk.then (QOk.inBlock (QOk.then (QOk.then (QOk.inBlock (QOk.then QOk.body)))))) ?_
    refine o_offN (i := 25) (fun j w => ⟨(fun _ _ => trivial) j w, fun _ h => h⟩) rfl rfl (by kernel_rfl) rfl rfl (QOk.then (QOk.inBlock (QOk.then (QOk.then (QOk.inBlock (QOk.then QOk.body)))))) ?_
    refine o_off (i := 26) (fun j w => ⟨(fun _ _ => trivial) j w, fun _ h => h⟩) rfl rfl (by kernel_rfl) rfl rfl rfl (QOk.then (QOk.inBlock (QOk.then (QOk.then (QOk.inBlock (QOk.then QOk.body)))))) ?_
    refine o_pure (i := 27) (fun j w => ⟨(fun _ _ => trivial) j w, fun _ h => h⟩) rfl rfl (by kernel_rfl) (goes0 rfl) (QOk.then (QOk.inBlock (QOk.then (QOk.then (QOk.inBlock (QOk.then QOk.body)))))) (fun w => q_pickT rfl rfl rfl) ?_
    refine o_done (by kernel_rfl) ?_
    refine hK14 _ _ ?_
    refine c_condT rfl rfl ?_
    refine wp_seq_k (fun K19 hK19 => ?_)
    refine wp_region_lit ?_
    refine l_q rfl rfl (q_assignB rfl) ?_
    refine l_nil ?_
    refine hK19 _ _ ?_
    refine wp_ret ?_
    refine c_ret1 rfl rfl ?_
    exact ⟨_, rfl, congrArg Value.bool (pB_f (bd_no hx11 (fun ⟨h1, h2, h3⟩ => by first | exact Bool.false_ne_true (Eq.trans (Eq.symm (by assumption)) h1)))).symm, hS16.drop⟩
   ·
    have hg17b := hg17
    try simp only [decide_eq_true_eq, decide_eq_false_iff_not, Bool.not_eq_true', Bool.not_eq_false', Bool.and_eq_true, Bool.or_eq_true, Int.not_lt, Int.not_le, ne_eq, Decidable.not_not] at hg17
    refine o_pure (i := 4) (fun j w => ⟨(fun _ _ => trivial) j w, fun _ h => h⟩) rfl rfl (by kernel_rfl) (goes1 rfl rfl hg17b) (QOk.then (QOk.inBlock (QOk.then (QOk.then (QOk.inBlock (QOk.then QOk.body)))))) (fun w => q_fieldAddr (ft := 45) (o := 0) rfl (by kernel_rfl)) ?_
    refine o_held (i := 5) [11, 12, 13, 14, 15, 16, 17, 18, 19, 20, 21, 22, 23, 24, 25, 26, 27] (fun j w => ⟨(fun _ _ => trivial) j w, fun _ h => h⟩) rfl rfl (by kernel_rfl) (goes1 rfl rfl hg17b) (QOk.then (QOk.inBlock (QOk.then (QOk.then (QOk.inBlock (QOk.then QOk.body)))))) (q_load1 rfl (by kernel_rfl) (hS16.cell (i := 0) rfl rfl)) ?_
    refine o_pure (i := 6) (fun j w => ⟨(fun j w => ⟨(fun _ _ => trivial) j w, fun _ h => h⟩) j w, fun _ h => h⟩) rfl rfl (by kernel_rfl) (goes1 rfl rfl hg17b) (QOk.then (QOk.inBlock (QOk.then (QOk.then (QOk.inBlock (QOk.then QOk.body)))))) (fun w => q_fieldAddr (ft := 22) (o := 1) rfl (by kernel_rfl)) ?_
    refine o_held (i := 7) [8, 9, 10, 11, 12, 13, 14, 15, 16, 17, 18, 19, 20, 21, 22, 23, 24, 25, 26, 27] (fun j w => ⟨(fun j w => ⟨(fun _ _ => trivial) j w, fun _ h => h⟩) j w, fun _ h => h⟩) rfl rfl (by kernel_rfl) (goes1 rfl rfl hg17b) (QOk.then (QOk.inBlock (QOk.then (QOk.then (QOk.inBlock (QOk.then QOk.body)))))) (q_load1 rfl (by kernel_rfl) (hS16.cell (i := 1) rfl rfl)) ?_
    refine o_pure (i := 8) (fun j w => ⟨(fun j w => ⟨(fun j w => ⟨(fun _ _ => trivial) j w, fun _ h => h⟩) j w, fun _ h => h⟩) j w, fun _ h => h⟩) rfl rfl (by kernel_rfl) (goes1 rfl rfl hg17b) (QOk.then (QOk.inBlock (QOk.then (QOk.then (QOk.inBlock (QOk.then QOk.body)))))) (fun w => q_ixG (e := 47) (m := 3) (j := 0) rfl rfl (by kernel_rfl) (by kernel_rfl) (by first | rfl | omega) (by omega) hCG (by rw [rows_len (c := cc) (m := 3) (fun _ => rfl)]; first | omega | (simp only [lls] <;> omega))) ?_
    refine o_pure (i := 9) (fun j w => ⟨(fun j w => ⟨(fun j w => ⟨(fun _ _ => trivial) j w, fun _ h => h⟩) j w, fun _ h => h⟩) j w, fun _ h => h⟩) rfl rfl (by kernel_rfl) (goes1 rfl rfl hg17b) (QOk.then (QOk.inBlock (QOk.then (QOk.then (QOk.inBlock (QOk.then QOk.body)))))) (fun w => q_fieldG (ft := 45) (o := 1) rfl (by kernel_rfl)) ?_
    obtain ⟨x20, hx20⟩ : ∃ x, (t.cs)[0]? = some x := ⟨_, List.getElem?_eq_getElem (by first | omega | (simp only [lls] <;> omega) | (simp <;> omega))⟩
    have hcb_x20 := (htc x20 (List.mem_of_getElem? hx20)).2
    refine o_held (i := 10) [11, 12, 13, 14, 15, 16, 17, 18, 19, 20, 21, 22, 23, 24, 25, 26, 27] (fun j w => ⟨(fun j w => ⟨(fun j w => ⟨(fun _ _ => trivial) j w, fun _ h => h⟩) j w, fun _ h => h⟩) j w, fun _ h => h⟩) rfl rfl (by kernel_rfl) (goes1 rfl rfl hg17b) (QOk.then (QOk.inBlock (QOk.then (QOk.then (QOk.inBlock (QOk.then QOk.body)))))) (q_load1 rfl (by kernel_rfl) (SlG.cell (hCG.mono hS16.base) (Gle.refl _) (row_at hx20 (c := cc) (m := 3) (fun _ => rfl) (j := 1) rfl))) ?_
    refine o_pure (i := 11) (fun j w => ⟨(fun j w => ⟨(fun j w => ⟨(fun j w => ⟨(fun _ _ => trivial) j w, fun _ h => h⟩) j w, fun _ h => h⟩) j w, fun _ h => h⟩) j w, fun _ h => h⟩) rfl rfl (by kernel_rfl) (goes1 rfl rfl hg17b) (QOk.then (QOk.inBlock (QOk.then (QOk.then (QOk.inBlock (QOk.then QOk.body)))))) (fun w => q_neq rfl rfl) ?_
    refine o_pure (i := 12) (fun j w => ⟨(fun j w => ⟨(fun j w => ⟨(fun j w => ⟨(fun _ _ => trivial) j w, fun _ h => h⟩) j w, fun _ h => h⟩) j w, fun _ h => h⟩) j w, fun _ h => h⟩) rfl rfl (by kernel_rfl) (goes0 rfl) (QOk.then (QOk.inBlock (QOk.then (QOk.then (QOk.inBlock (QOk.then QOk.body)))))) (fun w => q_pickF rfl hg17b rfl) ?_
    refine o_pure (i := 13) (fun j w => ⟨(fun j w => ⟨(fun j w => ⟨(fun j w => ⟨(fun _ _ => trivial) j w, fun _ h => h⟩) j w, fun _ h => h⟩) j w, fun _ h => h⟩) j w, fun _ h => h⟩) rfl rfl (by kernel_rfl) (goes0 rfl) (QOk.then (QOk.inBlock (QOk.then (QOk.then (QOk.inBlock (QOk.then QOk.body)))))) (fun w => q_moveB rfl) ?_
    refine g_splitO (t := 26) rfl (fun hg21 => ?_) (fun hg21 => ?_)
    ·
     have hg21b := hg21
     try simp only [decide_eq_true_eq, decide_eq_false_iff_not, Bool.not_eq_true', Bool.not_eq_false', Bool.and_eq_true, Bool.or_eq_true, Int.not_lt, Int.not_le, ne_eq, Decidable.not_not] at hg21
     refine o_off (i := 14) (fun j w => ⟨(fun j w => ⟨(fun j w => ⟨(fun j w => ⟨(fun _ _ => trivial) j w, fun _ h => h⟩) j w, fun _ h => h⟩) j w, fun _ h => h⟩) j w, fun _ h => h⟩) rfl rfl (by kernel_rfl) rfl rfl hg21b (QOk.then (QOk.inBlock (QOk.then (QOk.then (QOk.inBlock (QOk.then QOk.body)))))) ?_
     refine o_off (i := 15) (fun j w => ⟨(fun j w => ⟨(fun j w => ⟨(fun j w => ⟨(fun _ _ => trivial) j w, fun _ h => h⟩) j w, fun _ h => h⟩) j w, fun _ h => h⟩) j w, fun _ h => h⟩) rfl rfl (by kernel_rfl) rfl rfl hg21b (QOk.then (QOk.inBlock (QOk.then (QOk.then (QOk.inBlock (QOk.then QOk.body)))))) ?_
     refine o_off (i := 16) (fun j w => ⟨(fun j w => ⟨(fun j w => ⟨(fun j w => ⟨(fun _ _ => trivial) j w, fun _ h => h⟩) j w, fun _ h => h⟩) j w, fun _ h => h⟩) j w, fun _ h => h⟩) rfl rfl (by kernel_rfl) rfl rfl hg21b (QOk.then (QOk.inBlock (QOk.then (QOk.then (QOk.inBlock (QOk.then QOk.body)))))) ?_
     refine o_offN (i := 17) (fun j w => ⟨(fun j w => ⟨(fun j w => ⟨(fun j w => ⟨(fun _ _ => trivial) j w, fun _ h => h⟩) j w, fun _ h => h⟩) j w, fun _ h => h⟩) j w, fun _ h => h⟩) rfl rfl (by kernel_rfl) rfl rfl (QOk.then (QOk.inBlock (QOk.then (QOk.then (QOk.inBlock (QOk.then QOk.body)))))) ?_
     refine o_offN (i := 18) (fun j w => ⟨(fun j w => ⟨(fun j w => ⟨(fun j w => ⟨(fun _ _ => trivial) j w, fun _ h => h⟩) j w, fun _ h => h⟩) j w, fun _ h => h⟩) j w, fun _ h => h⟩) rfl rfl (by kernel_rfl) rfl rfl (QOk.then (QOk.inBlock (QOk.then (QOk.then (QOk.inBlock (QOk.then QOk.body)))))) ?_
     refine o_offN (i := 19) (fun j w => ⟨(fun j w => ⟨(fun j w => ⟨(fun j w => ⟨(fun _ _ => trivial) j w, fun _ h => h⟩) j w, fun _ h => h⟩) j w, fun _ h => h⟩) j w, fun _ h => h⟩) rfl rfl (by kernel_rfl) rfl rfl (QOk.then (QOk.inBlock (QOk.then (QOk.then (QOk.inBlock (QOk.then QOk.body)))))) ?_
     refine o_offN (i := 20) (fun j w => ⟨(fun j w => ⟨(fun j w => ⟨(fun j w => ⟨(fun _ _ => trivial) j w, fun _ h => h⟩) j w, fun _ h => h⟩) j w, fun _ h => h⟩) j w, fun _ h => h⟩) rfl rfl (by kernel_rfl) rfl rfl (QOk.then (QOk.inBlock (QOk.then (QOk.then (QOk.inBlock (QOk.then QOk.body)))))) ?_
     refine o_offN (i := 21) (fun j w => ⟨(fun j w => ⟨(fun j w => ⟨(fun j w => ⟨(fun _ _ => trivial) j w, fun _ h => h⟩) j w, fun _ h => h⟩) j w, fun _ h => h⟩) j w, fun _ h => h⟩) rfl rfl (by kernel_rfl) rfl rfl (QOk.then (QOk.inBlock (QOk.then (QOk.then (QOk.inBlock (QOk.then QOk.body)))))) ?_
     refine o_offN (i := 22) (fun j w => ⟨(fun j w => ⟨(fun j w => ⟨(fun j w => ⟨(fun _ _ => trivial) j w, fun _ h => h⟩) j w, fun _ h => h⟩) j w, fun _ h => h⟩) j w, fun _ h => h⟩) rfl rfl (by kernel_rfl) rfl rfl (QOk.then (QOk.inBlock (QOk.then (QOk.then (QOk.inBlock (QOk.then QOk.body)))))) ?_
     refine o_offN (i := 23) (fun j w => ⟨(fun j w => ⟨(fun j w => ⟨(fun j w => ⟨(fun _ _ => trivial) j w, fun _ h => h⟩) j w, fun _ h => h⟩) j w, fun _ h => h⟩) j w, fun _ h => h⟩) rfl rfl (by kernel_rfl) rfl rfl (QOk.then (QOk.inBlock (QOk.then (QOk.then (QOk.inBlock (QOk.then QOk.body)))))) ?_
     refine o_offN (i := 24) (fun j w => ⟨(fun j w => ⟨(fun j w => ⟨(fun j w => ⟨(fun _ _ => trivial) j w, fun _ h => h⟩) j w, fun _ h => h⟩) j w, fun _ h => h⟩) j w, fun _ h => h⟩) rfl rfl (by kernel_rfl) rfl rfl (QOk.then (QOk.inBlock (QOk.then (QOk.then (QOk.inBlock (QOk.then QOk.body)))))) ?_
     refine o_offN (i := 25) (fun j w => ⟨(fun j w => ⟨(fun j w => ⟨(fun j w => ⟨(fun _ _ => trivial) j w, fun _ h => h⟩) j w, fun _ h => h⟩) j w, fun _ h => h⟩) j w, fun _ h => h⟩) rfl rfl (by kernel_rfl) rfl rfl (QOk.then (QOk.inBlock (QOk.then (QOk.then (QOk.inBlock (QOk.then QOk.body)))))) ?_
     refine o_off (i := 26) (fun j w => ⟨(fun j w => ⟨(fun j w => ⟨(fun j w => ⟨(fun _ _ => trivial) j w, fun _ h => h⟩) j w, fun _ h => h⟩) j w, fun _ h => h⟩) j w, fun _ h => h⟩) rfl rfl (by kernel_rfl) rfl rfl hg21b (QOk.then (QOk.inBlock (QOk.then (QOk.then (QOk.inBlock (QOk.then QOk.body)))))) ?_
     refine o_pure (i := 27) (fun j w => ⟨(fun j w => ⟨(fun j w => ⟨(fun j w => ⟨(fun _ _ => trivial) j w, fun _ h => h⟩) j w, fun _ h => h⟩) j w, fun _ h => h⟩) j w, fun _ h => h⟩) rfl rfl (by kernel_rfl) (goes0 rfl) (QOk.then (QOk.inBlock (QOk.then (QOk.then (QOk.inBlock (QOk.then QOk.body)))))) (fun w => q_pickT rfl hg21b rfl) ?_
     refine o_done (by kernel_rfl) ?_
     refine hK14 _ _ ?_
     refine c_condT rfl rfl ?_
     refine wp_seq_k (fun K23 hK23 => ?_)
     refine wp_region_lit ?_
     refine l_q rfl rfl (q_assignB rfl) ?_
     refine l_nil ?_
     refine hK23 _ _ ?_
     refine wp_ret ?_
     refine c_ret1 rfl rfl ?_
     exact ⟨_, rfl, congrArg Value.bool (pB_f (bd_no hx11 (fun ⟨h1, h2, h3⟩ => by first | exact Bool.false_ne_true (Eq.trans (Eq.symm (by assumption)) h1) | (rw [k0_at hx20] at h2; exact absurd h2 (by omega))))).symm, hS16.drop⟩
    ·
     have hg21b := hg21
     try simp only [decide_eq_true_eq, decide_eq_false_iff_not, Bool.not_eq_true', Bool.not_eq_false', Bool.and_eq_true, Bool.or_eq_true, Int.not_lt, Int.not_le, ne_eq, Decidable.not_not] at hg21
     refine o_pure (i := 14) (fun j w => ⟨(fun j w => ⟨(fun j w => ⟨(fun j w => ⟨(fun _ _ => trivial) j w, fun _ h => h⟩) j w, fun _ h => h⟩) j w, fun _ h => h⟩) j w, fun _ h => h⟩) rfl rfl (by kernel_rfl) (goes1 rfl rfl hg21b) (QOk.then (QOk.inBlock (QOk.then (QOk.then (QOk.inBlock (QOk.then QOk.body)))))) (fun w => q_moveI rfl) ?_
     refine o_pure (i := 15) (fun j w => ⟨(fun j w => ⟨(fun j w => ⟨(fun j w => ⟨(fun _ _ => trivial) j w, fun _ h => h⟩) j w, fun _ h => h⟩) j w, fun _ h => h⟩) j w, fun _ h => h⟩) rfl rfl (by kernel_rfl) (goes1 rfl rfl hg21b) (QOk.then (QOk.inBlock (QOk.then (QOk.then (QOk.inBlock (QOk.then QOk.body)))))) (fun w => q_gtr rfl rfl) ?_
     refine o_pure (i := 16) (fun j w => ⟨(fun j w => ⟨(fun j w => ⟨(fun j w => ⟨(fun _ _ => trivial) j w, fun _ h => h⟩) j w, fun _ h => h⟩) j w, fun _ h => h⟩) j w, fun _ h => h⟩) rfl rfl (by kernel_rfl) (goes1 rfl rfl hg21b) (QOk.then (QOk.inBlock (QOk.then (QOk.then (QOk.inBlock (QOk.then QOk.body)))))) (fun w => q_moveB rfl) ?_
     refine g_splitO (t := 29) rfl (fun hg24 => ?_) (fun hg24 => ?_)
     ·
      have hg24b := hg24
      try simp only [decide_eq_true_eq, decide_eq_false_iff_not, Bool.not_eq_true', Bool.not_eq_false', Bool.and_eq_true, Bool.or_eq_true, Int.not_lt, Int.not_le, ne_eq, Decidable.not_not] at hg24
      refine o_pure (i := 17) (fun j w => ⟨(fun j w => ⟨(fun j w => ⟨(fun j w => ⟨(fun _ _ => trivial) j w, fun _ h => h⟩) j w, fun _ h => h⟩) j w, fun _ h => h⟩) j w, fun _ h => h⟩) rfl rfl (by kernel_rfl) (goes1 rfl rfl hg24b) (QOk.then (QOk.inBlock (QOk.then (QOk.then (QOk.inBlock (QOk.then QOk.body)))))) (fun w => q_fieldAddr (ft := 23) (o := 4) rfl (by kernel_rfl)) ?_
      refine o_held (i := 18) [21, 22, 24, 25, 26, 27] (fun j w => ⟨(fun j w => ⟨(fun j w => ⟨(fun j w => ⟨(fun _ _ => trivial) j w, fun _ h => h⟩) j w, fun _ h => h⟩) j w, fun _ h => h⟩) j w, fun _ h => h⟩) rfl rfl (by kernel_rfl) (goes1 rfl rfl hg24b) (QOk.then (QOk.inBlock (QOk.then (QOk.then (QOk.inBlock (QOk.then QOk.body)))))) (q_load1 rfl (by kernel_rfl) (hS16.cell (i := 1) rfl rfl)) ?_
      refine o_pure (i := 19) (fun j w => ⟨(fun j w => ⟨(fun j w => ⟨(fun j w => ⟨(fun j w => ⟨(fun _ _ => trivial) j w, fun _ h => h⟩) j w, fun _ h => h⟩) j w, fun _ h => h⟩) j w, fun _ h => h⟩) j w, fun _ h => h⟩) rfl rfl (by kernel_rfl) (goes1 rfl rfl hg24b) (QOk.then (QOk.inBlock (QOk.then (QOk.then (QOk.inBlock (QOk.then QOk.body)))))) (fun w => q_moveI rfl) ?_
      refine o_pure (i := 20) (fun j w => ⟨(fun j w => ⟨(fun j w => ⟨(fun j w => ⟨(fun j w => ⟨(fun _ _ => trivial) j w, fun _ h => h⟩) j w, fun _ h => h⟩) j w, fun _ h => h⟩) j w, fun _ h => h⟩) j w, fun _ h => h⟩) rfl rfl (by kernel_rfl) (goes1 rfl rfl hg24b) (QOk.then (QOk.inBlock (QOk.then (QOk.then (QOk.inBlock (QOk.then QOk.body)))))) (fun w => q_subx rfl rfl (by first | decide | omega) (by first | decide | omega)) ?_
      refine o_pure (i := 21) (fun j w => ⟨(fun j w => ⟨(fun j w => ⟨(fun j w => ⟨(fun j w => ⟨(fun _ _ => trivial) j w, fun _ h => h⟩) j w, fun _ h => h⟩) j w, fun _ h => h⟩) j w, fun _ h => h⟩) j w, fun _ h => h⟩) rfl rfl (by kernel_rfl) (goes1 rfl rfl hg24b) (QOk.then (QOk.inBlock (QOk.then (QOk.then (QOk.inBlock (QOk.then QOk.body)))))) (fun w => q_ixG (e := 59) (m := 3) (j := (i - 1)) rfl rfl (by kernel_rfl) (by kernel_rfl) (by first | rfl | omega) (by omega) hBG (by rw [rows_len (c := vl) (m := 3) (fun _ => rfl)]; first | omega | (simp only [lls] <;> omega))) ?_
      obtain ⟨x25, hx25⟩ : ∃ x, (t.bd)[(i - 1)]? = some x := ⟨_, List.getElem?_eq_getElem (by first | omega | (simp only [lls] <;> omega) | (simp <;> omega))⟩
      have hvb_x25 := (htb x25 (List.mem_of_getElem? hx25)).2
      refine o_held (i := 22) [24, 25, 26, 27] (fun j w => ⟨(fun j w => ⟨(fun j w => ⟨(fun j w => ⟨(fun j w => ⟨(fun _ _ => trivial) j w, fun _ h => h⟩) j w, fun _ h => h⟩) j w, fun _ h => h⟩) j w, fun _ h => h⟩) j w, fun _ h => h⟩) rfl rfl (by kernel_rfl) (goes1 rfl rfl hg24b) (QOk.then (QOk.inBlock (QOk.then (QOk.then (QOk.inBlock (QOk.then QOk.body)))))) (q_loadGA (m := 3) rfl (by kernel_rfl) (by kernel_rfl) (hBG.mono hS16.base) (row_take hx25 (c := vl) (m := 3) (fun _ => rfl)) rfl (by decide)) ?_
      refine o_held (i := 23) [24, 25, 26, 27] (fun j w => ⟨(fun j w => ⟨(fun j w => ⟨(fun j w => ⟨(fun j w => ⟨(fun j w => ⟨(fun _ _ => trivial) j w, fun _ h => h⟩) j w, fun _ h => h⟩) j w, fun _ h => h⟩) j w, fun _ h => h⟩) j w, fun _ h => h⟩) j w, fun _ h => h⟩) rfl rfl (by kernel_rfl) (goes1 rfl rfl hg24b) (QOk.then (QOk.inBlock (QOk.then (QOk.then (QOk.inBlock (QOk.then QOk.body)))))) (q_loadA (m := 3) rfl (by kernel_rfl) (by kernel_rfl) (hS16.blk (i := 0) rfl) rfl rfl) ?_
      refine o_eff (i := 24) (by kernel_rfl) rfl (goes1 rfl rfl hg24b) (fun K hK => ?_)
      refine e_call (by kernel_rfl) (order_ok x25 x11 (htb x25 (List.mem_of_getElem? hx25)).1 (htb x11 (List.mem_of_getElem? hx11)).1 _) rfl (after_R hS16 (fun v26 w26 hv26 hS26 => ?_))
      clear hS16
      obtain rfl := hv26
      refine hK _ _ ⟨⟨⟨⟨⟨⟨⟨trivial, fun h => absurd h (by decide)⟩, fun h => absurd h (by decide)⟩, fun h => absurd h (by decide)⟩, fun h => absurd h (by decide)⟩, fun h => absurd h (by decide)⟩, fun h => absurd h (by decide)⟩, fun h => absurd h (by decide)⟩ ?_; clear hK K
      refine o_pure (i := 25) (fun j w => ⟨(fun j w => ⟨(fun j w => ⟨(fun j w => ⟨(fun j w => ⟨(fun j w => ⟨(fun j w => ⟨(fun _ _ => trivial) j w, fun _ h => h⟩) j w, fun _ h => h⟩) j w, fun _ h => h⟩) j w, fun _ h => h⟩) j w, fun _ h => h⟩) j w, fun _ h => h⟩) j w, fun _ h => h⟩) rfl rfl (by kernel_rfl) (goes1 rfl rfl hg24b) (QOk.then (QOk.inBlock (QOk.then (QOk.then (QOk.inBlock (QOk.then QOk.body)))))) (fun w => q_geq rfl rfl) ?_
      refine o_pure (i := 26) (fun j w => ⟨(fun j w => ⟨(fun j w => ⟨(fun j w => ⟨(fun j w => ⟨(fun j w => ⟨(fun j w => ⟨(fun _ _ => trivial) j w, fun _ h => h⟩) j w, fun _ h => h⟩) j w, fun _ h => h⟩) j w, fun _ h => h⟩) j w, fun _ h => h⟩) j w, fun _ h => h⟩) j w, fun _ h => h⟩) rfl rfl (by kernel_rfl) (goes1 rfl rfl hg21b) (QOk.then (QOk.inBlock (QOk.then (QOk.then (QOk.inBlock (QOk.then QOk.body)))))) (fun w => q_pickT rfl hg24b rfl) ?_
      refine o_pure (i := 27) (fun j w => ⟨(fun j w => ⟨(fun j w => ⟨(fun j w => ⟨(fun j w => ⟨(fun j w => ⟨(fun j w => ⟨(fun _ _ => trivial) j w, fun _ h => h⟩) j w, fun _ h => h⟩) j w, fun _ h => h⟩) j w, fun _ h => h⟩) j w, fun _ h => h⟩) j w, fun _ h => h⟩) j w, fun _ h => h⟩) rfl rfl (by kernel_rfl) (goes0 rfl) (QOk.then (QOk.inBlock (QOk.then (QOk.then (QOk.inBlock (QOk.then QOk.body)))))) (fun w => q_pickF rfl hg21b rfl) ?_
      refine o_done (by kernel_rfl) ?_
      refine hK14 _ _ ?_
      refine c_cond rfl (fun hc27 => ?_) (fun hc27 => ?_)
      ·
       have hc27b := hc27
       try simp only [decide_eq_true_eq, decide_eq_false_iff_not, Bool.not_eq_true', Bool.not_eq_false', Bool.and_eq_true, Bool.or_eq_true, Int.not_lt, Int.not_le, ne_eq, Decidable.not_not] at hc27
       refine wp_seq_k (fun K28 hK28 => ?_)
       refine wp_region_lit ?_
       refine l_q rfl rfl (q_assignB rfl) ?_
       refine l_nil ?_
       refine hK28 _ _ ?_
       refine wp_ret ?_
       refine c_ret1 rfl rfl ?_
       exact ⟨_, rfl, congrArg Value.bool (pB_f (bd_no hx11 (fun ⟨h1, h2, h3⟩ => by first | exact Bool.false_ne_true (Eq.trans (Eq.symm (by assumption)) h1) | (rw [k0_at hx20] at h2; exact absurd h2 (by omega)) | exact absurd (h3 _ (by omega) hx25) (by omega)))).symm, hS26.drop⟩
      ·
       have hc27b := hc27
       try simp only [decide_eq_true_eq, decide_eq_false_iff_not, Bool.not_eq_true', Bool.not_eq_false', Bool.and_eq_true, Bool.or_eq_true, Int.not_lt, Int.not_le, ne_eq, Decidable.not_not] at hc27
       refine wp_skip ?_
       refine hK9 _ _ ?_
       refine wp_region_lit ?_
       refine l_q rfl rfl (q_addx rfl rfl (by first | decide | omega) (by first | decide | omega)) ?_
       refine l_q rfl rfl (q_moveI rfl) ?_
       refine l_nil ?_
       have hS29 := hS26.fr1; clear hS26
       have hS30 : St _ _ [_] _ := hS29.only 1; clear hS29
       refine hK5 _ _ (came ((i + 1)) (by repeat' (first | exact Agree.refl _ _ | refine Agree.up ?_ rfl | refine Agree.hav2 ?_ rfl | refine Agree.ups2 ?_ rfl)) (by repeat' (first | exact trivial | refine ⟨by first | rfl | exact int_succ _ | assumption, ?_⟩)) ?_)
       exact ⟨⟨hS30, (by show i + 1 ≤ t.bd.length; omega), hk.next hx11 (by assumption) (by rw [k0_at hx20]; omega) (fun u h0 hu => by first | omega | (have e := Option.some.inj (hu.symm.trans hx25); subst e; omega))⟩, by (show t.bd.length - (i + 1) < t.bd.length - i); omega⟩
     ·
      have hg24b := hg24
      try simp only [decide_eq_true_eq, decide_eq_false_iff_not, Bool.not_eq_true', Bool.not_eq_false', Bool.and_eq_true, Bool.or_eq_true, Int.not_lt, Int.not_le, ne_eq, Decidable.not_not] at hg24
      refine o_off (i := 17) (fun j w => ⟨(fun j w => ⟨(fun j w => ⟨(fun j w => ⟨(fun _ _ => trivial) j w, fun _ h => h⟩) j w, fun _ h => h⟩) j w, fun _ h => h⟩) j w, fun _ h => h⟩) rfl rfl (by kernel_rfl) rfl rfl hg24b (QOk.then (QOk.inBlock (QOk.then (QOk.then (QOk.inBlock (QOk.then QOk.body)))))) ?_
      refine o_off (i := 18) (fun j w => ⟨(fun j w => ⟨(fun j w => ⟨(fun j w => ⟨(fun _ _ => trivial) j w, fun _ h => h⟩) j w, fun _ h => h⟩) j w, fun _ h => h⟩) j w, fun _ h => h⟩) rfl rfl (by kernel_rfl) rfl rfl hg24b (QOk.then (QOk.inBlock (QOk.then (QOk.then (QOk.inBlock (QOk.then QOk.body)))))) ?_
      refine o_off (i := 19) (fun j w => ⟨(fun j w => ⟨(fun j w => ⟨(fun j w => ⟨(fun _ _ => trivial) j w, fun _ h => h⟩) j w, fun _ h => h⟩) j w, fun _ h => h⟩) j w, fun _ h => h⟩) rfl rfl (by kernel_rfl) rfl rfl hg24b (QOk.then (QOk.inBlock (QOk.then (QOk.then (QOk.inBlock (QOk.then QOk.body)))))) ?_
      refine o_off (i := 20) (fun j w => ⟨(fun j w => ⟨(fun j w => ⟨(fun j w => ⟨(fun _ _ => trivial) j w, fun _ h => h⟩) j w, fun _ h => h⟩) j w, fun _ h => h⟩) j w, fun _ h => h⟩) rfl rfl (by kernel_rfl) rfl rfl hg24b (QOk.then (QOk.inBlock (QOk.then (QOk.then (QOk.inBlock (QOk.then QOk.body)))))) ?_
      refine o_off (i := 21) (fun j w => ⟨(fun j w => ⟨(fun j w => ⟨(fun j w => ⟨(fun _ _ => trivial) j w, fun _ h => h⟩) j w, fun _ h => h⟩) j w, fun _ h => h⟩) j w, fun _ h => h⟩) rfl rfl (by kernel_rfl) rfl rfl hg24b (QOk.then (QOk.inBlock (QOk.then (QOk.then (QOk.inBlock (QOk.then QOk.body)))))) ?_
      refine o_off (i := 22) (fun j w => ⟨(fun j w => ⟨(fun j w => ⟨(fun j w => ⟨(fun _ _ => trivial) j w, fun _ h => h⟩) j w, fun _ h => h⟩) j w, fun _ h => h⟩) j w, fun _ h => h⟩) rfl rfl (by kernel_rfl) rfl rfl hg24b (QOk.then (QOk.inBlock (QOk.then (QOk.then (QOk.inBlock (QOk.then QOk.body)))))) ?_
      refine o_off (i := 23) (fun j w => ⟨(fun j w => ⟨(fun j w => ⟨(fun j w => ⟨(fun _ _ => trivial) j w, fun _ h => h⟩) j w, fun _ h => h⟩) j w, fun _ h => h⟩) j w, fun _ h => h⟩) rfl rfl (by kernel_rfl) rfl rfl hg24b (QOk.then (QOk.inBlock (QOk.then (QOk.then (QOk.inBlock (QOk.then QOk.body)))))) ?_
      refine o_off (i := 24) (fun j w => ⟨(fun j w => ⟨(fun j w => ⟨(fun j w => ⟨(fun _ _ => trivial) j w, fun _ h => h⟩) j w, fun _ h => h⟩) j w, fun _ h => h⟩) j w, fun _ h => h⟩) rfl rfl (by kernel_rfl) rfl rfl hg24b (QOk.then (QOk.inBlock (QOk.then (QOk.then (QOk.inBlock (QOk.then QOk.body)))))) ?_
      refine o_off (i := 25) (fun j w => ⟨(fun j w => ⟨(fun j w => ⟨(fun j w => ⟨(fun _ _ => trivial) j w, fun _ h => h⟩) j w, fun _ h => h⟩) j w, fun _ h => h⟩) j w, fun _ h => h⟩) rfl rfl (by kernel_rfl) rfl rfl hg24b (QOk.then (QOk.inBlock (QOk.then (QOk.then (QOk.inBlock (QOk.then QOk.body)))))) ?_
      refine o_pure (i := 26) (fun j w => ⟨(fun j w => ⟨(fun j w => ⟨(fun j w => ⟨(fun _ _ => trivial) j w, fun _ h => h⟩) j w, fun _ h => h⟩) j w, fun _ h => h⟩) j w, fun _ h => h⟩) rfl rfl (by kernel_rfl) (goes1 rfl rfl hg21b) (QOk.then (QOk.inBlock (QOk.then (QOk.then (QOk.inBlock (QOk.then QOk.body)))))) (fun w => q_pickF rfl hg24b rfl) ?_
      refine o_pure (i := 27) (fun j w => ⟨(fun j w => ⟨(fun j w => ⟨(fun j w => ⟨(fun _ _ => trivial) j w, fun _ h => h⟩) j w, fun _ h => h⟩) j w, fun _ h => h⟩) j w, fun _ h => h⟩) rfl rfl (by kernel_rfl) (goes0 rfl) (QOk.then (QOk.inBlock (QOk.then (QOk.then (QOk.inBlock (QOk.then QOk.body)))))) (fun w => q_pickF rfl hg21b rfl) ?_
      refine o_done (by kernel_rfl) ?_
      refine hK14 _ _ ?_
      refine c_condF rfl rfl ?_
      refine wp_skip ?_
      refine hK9 _ _ ?_
      refine wp_region_lit ?_
      refine l_q rfl rfl (q_addx rfl rfl (by first | decide | omega) (by first | decide | omega)) ?_
      refine l_q rfl rfl (q_moveI rfl) ?_
      refine l_nil ?_
      have hS32 := hS16.fr1; clear hS16
      have hS33 : St _ _ [_] _ := hS32.only 1; clear hS32
      refine hK5 _ _ (came ((i + 1)) (by repeat' (first | exact Agree.refl _ _ | refine Agree.up ?_ rfl | refine Agree.hav2 ?_ rfl | refine Agree.ups2 ?_ rfl)) (by repeat' (first | exact trivial | refine ⟨by first | rfl | exact int_succ _ | assumption, ?_⟩)) ?_)
      exact ⟨⟨hS33, (by show i + 1 ≤ t.bd.length; omega), hk.next hx11 (by assumption) (by rw [k0_at hx20]; omega) (fun u h0 hu => by first | omega | (have e := Option.some.inj (hu.symm.trans hx11); subst e; omega))⟩, by (show t.bd.length - (i + 1) < t.bd.length - i); omega⟩
  ·
   have hc8b := hc8
   try simp only [decide_eq_true_eq, decide_eq_false_iff_not, Bool.not_eq_true', Bool.not_eq_false', Bool.and_eq_true, Bool.or_eq_true, Int.not_lt, Int.not_le, ne_eq, Decidable.not_not] at hc8
   refine wp_exit ?_
   refine hK3 _ _ ?_
   refine wp_seq_k (fun K34 hK34 => ?_)
   refine wp_region_lit ?_
   refine l_q rfl rfl (q_assignB rfl) ?_
   refine l_nil ?_
   refine hK34 _ _ ?_
   refine wp_ret ?_
   refine c_ret1 rfl rfl ?_
   have hii : i = t.bd.length := by omega
   rw [hii] at hk
   exact ⟨_, rfl, congrArg Value.bool (pB_t hk).symm, hS5.drop⟩

set_option maxRecDepth 100000 in
theorem dupc_ok (d c : Co) (hd : Bytes d.nm) (hc : Bytes c.nm) (cb : Nat) (w : World) (hk : w.heap[cb]? = some (.cells #[.string (bs c.nm), .int .i64 c.k, .bool c.m] 47)) : Calls Tryz.prog 39 #[.agg #[.string (bs d.nm), .int .i64 d.k, .bool d.m], .pointer (some ⟨cb, 0, none⟩)] w (PostR w fun v => v = .bool (decide (d.nm = c.nm))) := by
 have hS := St.start w
 refine c_enter Tryz.func39 rfl rfl rfl ?_
 refine wp_seq_k (fun K1 hK1 => ?_)
 refine wp_region_lit ?_
 refine l_e rfl (fun K hK => ?_)
 refine e_boxA hS rfl (fun b2 w2 (hS2 : St _ _ [.blk b2 (.cells #[.string (bs d.nm), .int .i64 d.k, .bool d.m] 47)] _) => ?_)
 clear hS
 refine hK _ _ ?_; clear hK K
 refine l_q rfl rfl (q_assignB rfl) ?_
 refine l_nil ?_
 refine hK1 _ _ ?_
 refine wp_seq_k (fun K3 hK3 => ?_)
 refine wp_region_lit ?_
 refine l_q rfl rfl (q_fieldAddr (ft := 9) (o := 0) rfl (by kernel_rfl)) ?_
 refine l_q rfl rfl (q_load1 rfl (by kernel_rfl) (hS2.cell (i := 0) rfl rfl)) ?_
 refine l_q rfl rfl (q_fieldAddr (ft := 9) (o := 0) rfl (by kernel_rfl)) ?_
 refine l_q rfl rfl (q_load1 rfl (by kernel_rfl) (cell_blk (hS2.base _ _ hk) rfl)) ?_
 refine l_q rfl rfl (q_str_eql (l := d.nm) (m := c.nm) rfl rfl hd hc) ?_
 refine l_q rfl rfl (q_assignB rfl) ?_
 refine l_nil ?_
 refine hK3 _ _ ?_
 refine wp_ret ?_
 refine c_ret1 rfl rfl ?_
 exact ⟨_, rfl, rfl, hS2.drop⟩

set_option maxRecDepth 100000 in
theorem didx_ok (L : List Co) (hL : CsOk L) (n : Nat) (hn : L.length = n) (hm : n ≤ 2000000) (al : Option Addr) (cl : Nat) (c : Co) (hc : Bytes c.nm) (cb : Nat) (w : World) (hG : SlG (hw w) al (List.flatMap cc L)) (hk : w.heap[cb]? = some (.cells #[.string (bs c.nm), .int .i64 c.k, .bool c.m] 47)) : Calls Tryz.prog 36 #[.slice al n cl, .func (.func 39) #[] #[.pointer (some ⟨cb, 0, none⟩)]] w (PostR w fun v => ∃ r : Int, v = .int .i64 r ∧ decide (0 ≤ r) = pB (DupP L c.nm)) := by
 have hS := St.start w
 subst hn
 refine c_enter Tryz.func36 rfl rfl rfl ?_
 refine wp_seq_k (fun K1 hK1 => ?_)
 refine wp_region_lit ?_
 refine l_q rfl rfl (q_assignI rfl) ?_
 refine l_nil ?_
 refine hK1 _ _ ?_
 refine wp_seq_k (fun K2 hK2 => ?_)
 refine wp_seq_k (fun K3 hK3 => ?_)
 refine wp_region_lit ?_
 refine l_q rfl rfl (q_moveS rfl) ?_
 refine l_q rfl rfl (q_lenSl (e := 47) rfl (by kernel_rfl)) ?_
 refine l_q rfl rfl (q_moveI rfl) ?_
 refine l_nil ?_
 refine hK3 _ _ ?_
 refine wp_block ?_
 refine c_loop (τ := Nat) [(4, 5), (8, 18)] (fun x => (fun (i : Nat) => [(8, .int .i64 (i : Int))]) x) (fun x w' => (fun (i : Nat) => St w (fun _ => False) [] w' ∧ i ≤ L.length ∧ (∀ j, j < i → ∀ d, L[j]? = some d → d.nm ≠ c.nm)) x) (fun x => (fun (i : Nat) => L.length - i) x) (0) ?_ (by repeat' (first | exact trivial | refine ⟨by first | rfl | exact int_succ _ | assumption, ?_⟩)) (fun i j4 w4 hJ4 K4 hK4 => ?_)
 ·
  exact ⟨hS, Nat.zero_le _, fun j hj => by omega⟩
 ·
  obtain ⟨hS4, hi, hj⟩ := hJ4
  try dsimp only at hS4 hi hj ⊢
  refine wp_seq_k (fun K5 hK5 => ?_)
  refine wp_region_lit ?_
  refine l_q rfl rfl (q_lss rfl rfl) ?_
  refine l_nil ?_
  refine hK5 _ _ ?_
  refine wp_seq_k (fun K6 hK6 => ?_)
  refine c_cond rfl (fun hc7 => ?_) (fun hc7 => ?_)
  ·
   have hc7b := hc7
   try simp only [decide_eq_true_eq, decide_eq_false_iff_not, Bool.not_eq_true', Bool.not_eq_false', Bool.and_eq_true, Bool.or_eq_true, Int.not_lt, Int.not_le, ne_eq, Decidable.not_not] at hc7
   refine wp_skip ?_
   refine hK6 _ _ ?_
   refine wp_seq_k (fun K8 hK8 => ?_)
   refine wp_block ?_
   refine wp_seq_k (fun K9 hK9 => ?_)
   refine wp_region_lit ?_
   refine l_q rfl rfl (q_moveI rfl) ?_
   refine l_q rfl rfl (q_assignI rfl) ?_
   refine l_nil ?_
   refine hK9 _ _ ?_
   refine wp_seq_k (fun K10 hK10 => ?_)
   refine wp_region_lit ?_
   refine l_q rfl rfl (q_move rfl) ?_
   refine l_q rfl rfl (q_moveS rfl) ?_
   refine l_q rfl rfl (q_moveI rfl) ?_
   refine l_q rfl rfl (q_ixG (e := 47) (m := 3) (j := i) rfl rfl (by kernel_rfl) (by kernel_rfl) (by first | rfl | omega) (by omega) hG (by rw [rows_len (c := cc) (m := 3) (fun _ => rfl)]; first | omega | (simp only [lls] <;> omega))) ?_
   obtain ⟨x11, hx11⟩ : ∃ x, (L)[i]? = some x := ⟨_, List.getElem?_eq_getElem (by first | omega | (simp only [lls] <;> omega) | (simp <;> omega))⟩
   have hcb_x11 := (hL x11 (List.mem_of_getElem? hx11)).2
   refine l_q rfl rfl (q_loadGA (m := 3) rfl (by kernel_rfl) (by kernel_rfl) (hG.mono hS4.base) (row_take hx11 (c := cc) (m := 3) (fun _ => rfl)) rfl (by decide)) ?_
   refine l_e rfl (fun K hK => ?_)
   refine e_callV (by kernel_rfl) rfl (dupc_ok x11 c (hL x11 (List.mem_of_getElem? hx11)).1 hc cb _ (hS4.base _ _ hk)) rfl (after_R hS4 (fun v12 w12 hv12 hS12 => ?_))
   clear hS4
   obtain rfl := hv12
   refine hK _ _ ?_; clear hK K
   refine l_nil ?_
   refine hK10 _ _ ?_
   refine c_cond rfl (fun hc13 => ?_) (fun hc13 => ?_)
   ·
    have hc13b := hc13
    try simp only [decide_eq_true_eq, decide_eq_false_iff_not, Bool.not_eq_true', Bool.not_eq_false', Bool.and_eq_true, Bool.or_eq_true, Int.not_lt, Int.not_le, ne_eq, Decidable.not_not] at hc13
    refine wp_seq_k (fun K14 hK14 => ?_)
    refine wp_region_lit ?_
    refine l_q rfl rfl (q_moveI rfl) ?_
    refine l_q rfl rfl (q_assignI rfl) ?_
    refine l_nil ?_
    refine hK14 _ _ ?_
    refine wp_ret ?_
    refine c_ret1 rfl rfl ?_
    exact ⟨_, rfl, ⟨_, rfl, by rw [dup_yes hx11 (by assumption)]; exact decide_eq_true (by omega)⟩, hS12.drop⟩
   ·
    have hc13b := hc13
    try simp only [decide_eq_true_eq, decide_eq_false_iff_not, Bool.not_eq_true', Bool.not_eq_false', Bool.and_eq_true, Bool.or_eq_true, Int.not_lt, Int.not_le, ne_eq, Decidable.not_not] at hc13
    refine wp_skip ?_
    refine hK8 _ _ ?_
    refine wp_region_lit ?_
    refine l_q rfl rfl (q_addx rfl rfl (by first | decide | omega) (by first | decide | omega)) ?_
    refine l_q rfl rfl (q_moveI rfl) ?_
    refine l_nil ?_
    refine hK4 _ _ (came ((i + 1)) (by repeat' (first | exact Agree.refl _ _ | refine Agree.up ?_ rfl | refine Agree.hav2 ?_ rfl | refine Agree.ups2 ?_ rfl)) (by repeat' (first | exact trivial | refine ⟨by first | rfl | exact int_succ _ | assumption, ?_⟩)) ?_)
    exact ⟨⟨hS12, (by show i + 1 ≤ L.length; omega), dup_step hj hx11 (by assumption)⟩, by (show L.length - (i + 1) < L.length - i); omega⟩
  ·
   have hc7b := hc7
   try simp only [decide_eq_true_eq, decide_eq_false_iff_not, Bool.not_eq_true', Bool.not_eq_false', Bool.and_eq_true, Bool.or_eq_true, Int.not_lt, Int.not_le, ne_eq, Decidable.not_not] at hc7
   refine wp_exit ?_
   refine hK2 _ _ ?_
   refine wp_seq_k (fun K15 hK15 => ?_)
   refine wp_region_lit ?_
   refine l_q rfl rfl (q_assignI rfl) ?_
   refine l_nil ?_
   refine hK15 _ _ ?_
   refine wp_ret ?_
   refine c_ret1 rfl rfl ?_
   exact ⟨_, rfl, ⟨_, rfl, by rw [dup_no (fun j hj' x hx => hj j (by omega) x hx)]; rfl⟩, hS4.drop⟩

set_option maxRecDepth 100000 in
theorem dcon_ok (L : List Co) (hL : CsOk L) (n : Nat) (hn : L.length = n) (hm : n ≤ 2000000) (al : Option Addr) (cl : Nat) (c : Co) (hc : Bytes c.nm) (cb : Nat) (w : World) (hG : SlG (hw w) al (List.flatMap cc L)) (hk : w.heap[cb]? = some (.cells #[.string (bs c.nm), .int .i64 c.k, .bool c.m] 47)) : Calls Tryz.prog 38 #[.slice al n cl, .func (.func 39) #[] #[.pointer (some ⟨cb, 0, none⟩)]] w (PostR w fun v => v = .bool (pB (DupP L c.nm))) := by
 have hS := St.start w
 subst hn
 refine c_enter Tryz.func38 rfl rfl rfl ?_
 refine wp_seq_k (fun K1 hK1 => ?_)
 refine wp_region_lit ?_
 refine l_q rfl rfl (q_assignB rfl) ?_
 refine l_nil ?_
 refine hK1 _ _ ?_
 refine wp_seq_k (fun K2 hK2 => ?_)
 refine wp_region_lit ?_
 refine l_q rfl rfl (q_moveS rfl) ?_
 refine l_q rfl rfl (q_move rfl) ?_
 refine l_e rfl (fun K hK => ?_)
 refine e_call (by kernel_rfl) (didx_ok L hL L.length rfl hm _ _ c hc cb _ (hG.mono hS.base) (hS.base _ _ hk)) rfl (after_R hS (fun v3 w3 hv3 hS3 => ?_))
 clear hS
 obtain ⟨r3, rfl, hr3⟩ := hv3
 refine hK _ _ ?_; clear hK K
 refine l_q rfl rfl (q_geq rfl rfl) ?_
 refine l_q rfl rfl (q_assignB rfl) ?_
 refine l_nil ?_
 refine hK2 _ _ ?_
 refine wp_ret ?_
 refine c_ret1 rfl rfl ?_
 exact ⟨_, rfl, congrArg Value.bool hr3, hS3.drop⟩

set_option maxRecDepth 100000 in
theorem rclos_ok (cca : Nat) (t : Tb) (htn : Bytes t.nm) (htc : CsOk t.cs) (htb : VsOk t.bd) (hmc : t.cs.length ≤ 2000000) (hcl : t.cs.length ≤ cca) (c : Co) (hc : Bytes c.nm) (i : Nat) (hi : i < t.cs.length) (bt bi : Nat) (ca ba : Option Addr) (cba : Nat) (w : World) (g : Gh) (hg : Rog [.blk bt (.cells #[.string (bs t.nm), .slice ca t.cs.length cca, .int .i64 t.key, .int .i64 t.pt, .slice ba t.bd.length cba] 25), .blk bi (.cells #[.int .i64 (i : Int)] 3)] w g) (hCG : SlG g ca (List.flatMap cc t.cs)) (hS : St w (owns [.blk bt (.cells #[.string (bs t.nm), .slice ca t.cs.length cca, .int .i64 t.key, .int .i64 t.pt, .slice ba t.bd.length cba] 25), .blk bi (.cells #[.int .i64 (i : Int)] 3)]) [.blk bt (.cells #[.string (bs t.nm), .slice ca t.cs.length cca, .int .i64 t.key, .int .i64 t.pt, .slice ba t.bd.length cba] 25), .blk bi (.cells #[.int .i64 (i : Int)] 3)] w) : Calls Tryz.prog 37 #[.agg #[.string (bs c.nm), .int .i64 c.k, .bool c.m], .pointer (some ⟨bt, 0, none⟩), .pointer (some ⟨bi, 0, none⟩)] w (Post w [.blk bt (.cells #[.string (bs t.nm), .slice ca t.cs.length cca, .int .i64 t.key, .int .i64 t.pt, .slice ba t.bd.length cba] 25), .blk bi (.cells #[.int .i64 (i : Int)] 3)] fun v G => v = .bool (pB (¬ColP t i c)) ∧ G = [.blk bt (.cells #[.string (bs t.nm), .slice ca t.cs.length cca, .int .i64 t.key, .int .i64 t.pt, .slice ba t.bd.length cba] 25), .blk bi (.cells #[.int .i64 (((i + 1) : Nat) : Int)] 3)]) := by
 refine c_enter Tryz.func37 rfl rfl rfl ?_
 refine wp_seq_k (fun K1 hK1 => ?_)
 refine wp_region_lit ?_
 refine l_e rfl (fun K hK => ?_)
 refine e_boxA hS rfl (fun b2 w2 (hS2 : St _ _ [.blk b2 (.cells #[.string (bs c.nm), .int .i64 c.k, .bool c.m] 47), .blk bt (.cells #[.string (bs t.nm), .slice ca t.cs.length cca, .int .i64 t.key, .int .i64 t.pt, .slice ba t.bd.length cba] 25), .blk bi (.cells #[.int .i64 (i : Int)] 3)] _) => ?_)
 clear hS
 refine hK _ _ ?_; clear hK K
 refine l_q rfl rfl (q_assignB rfl) ?_
 refine l_nil ?_
 refine hK1 _ _ ?_
 refine wp_seq_k (fun K3 hK3 => ?_)
 refine wp_region_lit ?_
 refine l_q rfl rfl (q_fieldAddr (ft := 22) (o := 1) rfl (by kernel_rfl)) ?_
 refine l_q rfl rfl (q_load1 rfl (by kernel_rfl) (hS2.cell (i := 1) rfl rfl)) ?_
 refine l_q rfl rfl (q_load1 rfl (by kernel_rfl) (hS2.cell (i := 2) rfl rfl)) ?_
 refine l_q rfl rfl (q_sliceX (e := 47) (size := 3) (l := 0) (h := i) (m := cca) (ad' := ca) (len' := i) (cap' := cca) rfl (by kernel_rfl) (by kernel_rfl) rfl ⟨_, int_nat (by first | rfl | omega) rfl⟩ rfl (by omega) (by first | omega | (simp only [lls] <;> omega)) (by first | omega | (simp only [lls] <;> omega)) rfl subS_zero (Nat.sub_zero _) (Nat.sub_zero _)) ?_
 refine l_q rfl rfl (q_makeFunc) ?_
 refine l_e rfl (fun K hK => ?_)
 refine e_call (by kernel_rfl) (dcon_ok (t.cs.take i) (CsOk.take htc) i (by first | omega | (simp only [lls] <;> omega)) (by first | omega | (simp only [lls] <;> omega)) _ _ c hc b2 _ ((rows_takeG (c := cc) (m := 3) (fun _ => rfl) (n := i) hCG).mono (hg.le hS2)) (hS2.blk (i := 0) rfl)) rfl (after_R hS2 (fun v4 w4 hv4 hS4 => ?_))
 clear hS2
 obtain rfl := hv4
 refine hK _ _ ?_; clear hK K
 refine l_q rfl rfl (q_assignB rfl) ?_
 refine l_nil ?_
 refine hK3 _ _ ?_
 refine wp_seq_k (fun K5 hK5 => ?_)
 refine wp_region_lit ?_
 refine l_q rfl rfl (q_load1 rfl (by kernel_rfl) (hS4.cell (i := 2) rfl rfl)) ?_
 refine l_q rfl rfl (q_addx rfl rfl (by first | decide | omega) (by first | decide | omega)) ?_
 refine l_e rfl (fun K hK => ?_)
 refine e_store1 hS4 rfl rfl (by kernel_rfl) (by first | rfl | assumption) (i := 2) rfl rfl (fun w6 (hS6 : St _ _ [_, _, .blk bi (.cells #[.int .i64 ((i : Int) + (1 : Int))] 3)] _) => ?_)
 clear hS4
 refine hK _ _ ?_; clear hK K
 refine l_nil ?_
 refine hK5 _ _ ?_
 refine wp_seq_k (fun K7 hK7 => ?_)
 refine wp_region_lit ?_
 refine l_q rfl rfl (q_moveB rfl) ?_
 refine l_q rfl rfl (q_moveB rfl) ?_
 refine g_splitL (t := 15) rfl (fun hg8 => ?_) (fun hg8 => ?_)
 ·
  have hg8b := hg8
  try simp only [decide_eq_true_eq, decide_eq_false_iff_not, Bool.not_eq_true', Bool.not_eq_false', Bool.and_eq_true, Bool.or_eq_true, Int.not_lt, Int.not_le, ne_eq, Decidable.not_not] at hg8
  refine l_off rfl rfl rfl hg8b ?_
  refine l_off rfl rfl rfl hg8b ?_
  refine l_off rfl rfl rfl hg8b ?_
  refine l_off rfl rfl rfl hg8b ?_
  refine l_q rfl rfl (q_pickT rfl hg8b rfl) ?_
  refine l_q rfl rfl (q_moveB rfl) ?_
  refine l_off rfl rfl rfl rfl ?_
  refine l_off rfl rfl rfl rfl ?_
  refine l_off rfl rfl rfl rfl ?_
  refine l_q rfl rfl (q_pickT rfl rfl rfl) ?_
  refine l_q rfl rfl (q_moveB rfl) ?_
  refine l_off rfl rfl rfl rfl ?_
  refine l_off rfl rfl rfl rfl ?_
  refine l_off rfl rfl rfl rfl ?_
  refine l_q rfl rfl (q_pickT rfl rfl rfl) ?_
  refine l_q rfl rfl (q_moveB rfl) ?_
  refine l_off rfl rfl rfl rfl ?_
  refine l_off rfl rfl rfl rfl ?_
  refine l_off rfl rfl rfl rfl ?_
  refine l_off rfl rfl rfl rfl ?_
  refine l_off rfl rfl rfl rfl ?_
  refine l_offN rfl rfl rfl ?_
  refine l_offN rfl rfl rfl ?_
  refine l_offN rfl rfl rfl ?_
  refine l_off rfl rfl rfl rfl ?_
  refine l_q rfl rfl (q_pickT rfl rfl rfl) ?_
  refine l_q rfl rfl (q_assignB rfl) ?_
  refine l_nil ?_
  refine hK7 _ _ ?_
  refine wp_ret ?_
  refine c_ret1 rfl rfl ?_
  have hS9 := hS6.fr2; clear hS6
  have hS10 := hS9.fr2; clear hS9
  have hS11 : St _ _ [_, _] _ := hS10.only 2; clear hS10
  exact ⟨_, _, rfl, ⟨congrArg Value.bool (by first | exact col_y1 (by assumption) | exact col_y2 (by assumption) | exact col_y3 (by omega) | exact col_n (by assumption) (by assumption) (by omega) (by omega) | exact col_m (by assumption) (by assumption) (by omega) (by omega)), rfl⟩, hS11⟩
 ·
  have hg8b := hg8
  try simp only [decide_eq_true_eq, decide_eq_false_iff_not, Bool.not_eq_true', Bool.not_eq_false', Bool.and_eq_true, Bool.or_eq_true, Int.not_lt, Int.not_le, ne_eq, Decidable.not_not] at hg8
  refine l_on rfl rfl hg8b ?_
  refine l_q rfl rfl (q_fieldAddr (ft := 9) (o := 0) rfl (by kernel_rfl)) ?_
  refine l_on rfl rfl hg8b ?_
  refine l_q rfl rfl (q_load1 rfl (by kernel_rfl) (hS6.cell (i := 0) rfl rfl)) ?_
  refine l_on rfl rfl hg8b ?_
  refine l_e rfl (fun K hK => ?_)
  refine e_call (by kernel_rfl) (name_ok c.nm hc _) rfl (after_R hS6 (fun v12 w12 hv12 hS12 => ?_))
  clear hS6
  obtain rfl := hv12
  refine hK _ _ ?_; clear hK K
  refine l_on rfl rfl hg8b ?_
  refine l_q rfl rfl (q_not rfl) ?_
  refine l_q rfl rfl (q_pickF rfl hg8b rfl) ?_
  refine l_q rfl rfl (q_moveB rfl) ?_
  refine g_splitL (t := 21) rfl (fun hg13 => ?_) (fun hg13 => ?_)
  ·
   have hg13b := hg13
   try simp only [decide_eq_true_eq, decide_eq_false_iff_not, Bool.not_eq_true', Bool.not_eq_false', Bool.and_eq_true, Bool.or_eq_true, Int.not_lt, Int.not_le, ne_eq, Decidable.not_not] at hg13
   refine l_off rfl rfl rfl hg13b ?_
   refine l_off rfl rfl rfl hg13b ?_
   refine l_off rfl rfl rfl hg13b ?_
   refine l_q rfl rfl (q_pickT rfl hg13b rfl) ?_
   refine l_q rfl rfl (q_moveB rfl) ?_
   refine l_off rfl rfl rfl rfl ?_
   refine l_off rfl rfl rfl rfl ?_
   refine l_off rfl rfl rfl rfl ?_
   refine l_q rfl rfl (q_pickT rfl rfl rfl) ?_
   refine l_q rfl rfl (q_moveB rfl) ?_
   refine l_off rfl rfl rfl rfl ?_
   refine l_off rfl rfl rfl rfl ?_
   refine l_off rfl rfl rfl rfl ?_
   refine l_off rfl rfl rfl rfl ?_
   refine l_off rfl rfl rfl rfl ?_
   refine l_offN rfl rfl rfl ?_
   refine l_offN rfl rfl rfl ?_
   refine l_offN rfl rfl rfl ?_
   refine l_off rfl rfl rfl rfl ?_
   refine l_q rfl rfl (q_pickT rfl rfl rfl) ?_
   refine l_q rfl rfl (q_assignB rfl) ?_
   refine l_nil ?_
   refine hK7 _ _ ?_
   refine wp_ret ?_
   refine c_ret1 rfl rfl ?_
   have hS14 := hS12.fr2; clear hS12
   have hS15 := hS14.fr2; clear hS14
   have hS16 : St _ _ [_, _] _ := hS15.only 2; clear hS15
   exact ⟨_, _, rfl, ⟨congrArg Value.bool (by first | exact col_y1 (by assumption) | exact col_y2 (by assumption) | exact col_y3 (by omega) | exact col_n (by assumption) (by assumption) (by omega) (by omega) | exact col_m (by assumption) (by assumption) (by omega) (by omega)), rfl⟩, hS16⟩
  ·
   have hg13b := hg13
   try simp only [decide_eq_true_eq, decide_eq_false_iff_not, Bool.not_eq_true', Bool.not_eq_false', Bool.and_eq_true, Bool.or_eq_true, Int.not_lt, Int.not_le, ne_eq, Decidable.not_not] at hg13
   refine l_on rfl rfl hg13b ?_
   refine l_q rfl rfl (q_fieldAddr (ft := 45) (o := 1) rfl (by kernel_rfl)) ?_
   refine l_on rfl rfl hg13b ?_
   refine l_q rfl rfl (q_load1 rfl (by kernel_rfl) (hS12.cell (i := 0) rfl rfl)) ?_
   refine l_on rfl rfl hg13b ?_
   refine l_q rfl rfl (q_lss rfl rfl) ?_
   refine l_q rfl rfl (q_pickF rfl hg13b rfl) ?_
   refine l_q rfl rfl (q_moveB rfl) ?_
   refine g_splitL (t := 26) rfl (fun hg17 => ?_) (fun hg17 => ?_)
   ·
    have hg17b := hg17
    try simp only [decide_eq_true_eq, decide_eq_false_iff_not, Bool.not_eq_true', Bool.not_eq_false', Bool.and_eq_true, Bool.or_eq_true, Int.not_lt, Int.not_le, ne_eq, Decidable.not_not] at hg17
    refine l_off rfl rfl rfl hg17b ?_
    refine l_off rfl rfl rfl hg17b ?_
    refine l_off rfl rfl rfl hg17b ?_
    refine l_q rfl rfl (q_pickT rfl hg17b rfl) ?_
    refine l_q rfl rfl (q_moveB rfl) ?_
    refine l_off rfl rfl rfl rfl ?_
    refine l_off rfl rfl rfl rfl ?_
    refine l_off rfl rfl rfl rfl ?_
    refine l_off rfl rfl rfl rfl ?_
    refine l_off rfl rfl rfl rfl ?_
    refine l_offN rfl rfl rfl ?_
    refine l_offN rfl rfl rfl ?_
    refine l_offN rfl rfl rfl ?_
    refine l_off rfl rfl rfl rfl ?_
    refine l_q rfl rfl (q_pickT rfl rfl rfl) ?_
    refine l_q rfl rfl (q_assignB rfl) ?_
    refine l_nil ?_
    refine hK7 _ _ ?_
    refine wp_ret ?_
    refine c_ret1 rfl rfl ?_
    have hS18 := hS12.fr2; clear hS12
    have hS19 := hS18.fr2; clear hS18
    have hS20 : St _ _ [_, _] _ := hS19.only 2; clear hS19
    exact ⟨_, _, rfl, ⟨congrArg Value.bool (by first | exact col_y1 (by assumption) | exact col_y2 (by assumption) | exact col_y3 (by omega) | exact col_n (by assumption) (by assumption) (by omega) (by omega) | exact col_m (by assumption) (by assumption) (by omega) (by omega)), rfl⟩, hS20⟩
   ·
    have hg17b := hg17
    try simp only [decide_eq_true_eq, decide_eq_false_iff_not, Bool.not_eq_true', Bool.not_eq_false', Bool.and_eq_true, Bool.or_eq_true, Int.not_lt, Int.not_le, ne_eq, Decidable.not_not] at hg17
    refine l_on rfl rfl hg17b ?_
    refine l_q rfl rfl (q_fieldAddr (ft := 45) (o := 1) rfl (by kernel_rfl)) ?_
    refine l_on rfl rfl hg17b ?_
    refine l_q rfl rfl (q_load1 rfl (by kernel_rfl) (hS12.cell (i := 0) rfl rfl)) ?_
    refine l_on rfl rfl hg17b ?_
    refine l_q rfl rfl (q_gtr rfl rfl) ?_
    refine l_q rfl rfl (q_pickF rfl hg17b rfl) ?_
    refine l_q rfl rfl (q_moveB rfl) ?_
    refine g_splitL (t := 31) rfl (fun hg21 => ?_) (fun hg21 => ?_)
    ·
     have hg21b := hg21
     try simp only [decide_eq_true_eq, decide_eq_false_iff_not, Bool.not_eq_true', Bool.not_eq_false', Bool.and_eq_true, Bool.or_eq_true, Int.not_lt, Int.not_le, ne_eq, Decidable.not_not] at hg21
     refine l_off rfl rfl rfl hg21b ?_
     refine l_off rfl rfl rfl hg21b ?_
     refine l_off rfl rfl rfl hg21b ?_
     refine l_off rfl rfl rfl hg21b ?_
     refine l_off rfl rfl rfl hg21b ?_
     refine l_offN rfl rfl rfl ?_
     refine l_offN rfl rfl rfl ?_
     refine l_offN rfl rfl rfl ?_
     refine l_off rfl rfl rfl hg21b ?_
     refine l_q rfl rfl (q_pickT rfl hg21b rfl) ?_
     refine l_q rfl rfl (q_assignB rfl) ?_
     refine l_nil ?_
     refine hK7 _ _ ?_
     refine wp_ret ?_
     refine c_ret1 rfl rfl ?_
     have hS22 := hS12.fr2; clear hS12
     have hS23 := hS22.fr2; clear hS22
     have hS24 : St _ _ [_, _] _ := hS23.only 2; clear hS23
     exact ⟨_, _, rfl, ⟨congrArg Value.bool (by first | exact col_y1 (by assumption) | exact col_y2 (by assumption) | exact col_y3 (by omega) | exact col_n (by assumption) (by assumption) (by omega) (by omega) | exact col_m (by assumption) (by assumption) (by omega) (by omega)), rfl⟩, hS24⟩
    ·
     have hg21b := hg21
     try simp only [decide_eq_true_eq, decide_eq_false_iff_not, Bool.not_eq_true', Bool.not_eq_false', Bool.and_eq_true, Bool.or_eq_true, Int.not_lt, Int.not_le, ne_eq, Decidable.not_not] at hg21
     refine l_on rfl rfl hg21b ?_
     refine l_q rfl rfl (q_load1 rfl (by kernel_rfl) (hS12.cell (i := 2) rfl rfl)) ?_
     refine l_on rfl rfl hg21b ?_
     refine l_q rfl rfl (q_fieldAddr (ft := 3) (o := 2) rfl (by kernel_rfl)) ?_
     refine l_on rfl rfl hg21b ?_
     refine l_q rfl rfl (q_load1 rfl (by kernel_rfl) (hS12.cell (i := 1) rfl rfl)) ?_
     refine l_on rfl rfl hg21b ?_
     refine l_q rfl rfl (q_leq rfl rfl) ?_
     refine l_on rfl rfl hg21b ?_
     refine l_q rfl rfl (q_moveB rfl) ?_
     refine g_splitL (t := 36) rfl (fun hg25 => ?_) (fun hg25 => ?_)
     ·
      have hg25b := hg25
      try simp only [decide_eq_true_eq, decide_eq_false_iff_not, Bool.not_eq_true', Bool.not_eq_false', Bool.and_eq_true, Bool.or_eq_true, Int.not_lt, Int.not_le, ne_eq, Decidable.not_not] at hg25
      refine l_on rfl rfl hg25b ?_
      refine l_q rfl rfl (q_fieldAddr (ft := 4) (o := 2) rfl (by kernel_rfl)) ?_
      refine l_on rfl rfl hg25b ?_
      refine l_q rfl rfl (q_load1 rfl (by kernel_rfl) (hS12.cell (i := 0) rfl rfl)) ?_
      refine l_on rfl rfl hg25b ?_
      refine l_q rfl rfl (q_not rfl) ?_
      refine l_on rfl rfl hg21b ?_
      refine l_q rfl rfl (q_pickT rfl hg25b rfl) ?_
      refine l_q rfl rfl (q_pickF rfl hg21b rfl) ?_
      refine l_q rfl rfl (q_assignB rfl) ?_
      refine l_nil ?_
      refine hK7 _ _ ?_
      refine wp_ret ?_
      refine c_ret1 rfl rfl ?_
      have hS26 := hS12.fr2; clear hS12
      have hS27 := hS26.fr2; clear hS26
      have hS28 : St _ _ [_, _] _ := hS27.only 2; clear hS27
      exact ⟨_, _, rfl, ⟨congrArg Value.bool (by first | exact col_y1 (by assumption) | exact col_y2 (by assumption) | exact col_y3 (by omega) | exact col_n (by assumption) (by assumption) (by omega) (by omega) | exact col_m (by assumption) (by assumption) (by omega) (by omega)), rfl⟩, hS28⟩
     ·
      have hg25b := hg25
      try simp only [decide_eq_true_eq, decide_eq_false_iff_not, Bool.not_eq_true', Bool.not_eq_false', Bool.and_eq_true, Bool.or_eq_true, Int.not_lt, Int.not_le, ne_eq, Decidable.not_not] at hg25
      refine l_off rfl rfl rfl hg25b ?_
      refine l_off rfl rfl rfl hg25b ?_
      refine l_off rfl rfl rfl hg25b ?_
      refine l_on rfl rfl hg21b ?_
      refine l_q rfl rfl (q_pickF rfl hg25b rfl) ?_
      refine l_q rfl rfl (q_pickF rfl hg21b rfl) ?_
      refine l_q rfl rfl (q_assignB rfl) ?_
      refine l_nil ?_
      refine hK7 _ _ ?_
      refine wp_ret ?_
      refine c_ret1 rfl rfl ?_
      have hS29 := hS12.fr2; clear hS12
      have hS30 := hS29.fr2; clear hS29
      have hS31 : St _ _ [_, _] _ := hS30.only 2; clear hS30
      exact ⟨_, _, rfl, ⟨congrArg Value.bool (by first | exact col_y1 (by assumption) | exact col_y2 (by assumption) | exact col_y3 (by omega) | exact col_n (by assumption) (by assumption) (by omega) (by omega) | exact col_m (by assumption) (by assumption) (by omega) (by omega)), rfl⟩, hS31⟩

end Go.Proofs.YtmemgpcgjephmaaGreatDoor
