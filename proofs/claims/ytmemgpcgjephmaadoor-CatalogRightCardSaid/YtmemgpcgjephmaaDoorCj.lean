/- law18: CatalogRight. -/
import Derived.Test.YtmemgpcgjephmaaDoorCi
set_option linter.unusedVariables false
set_option linter.unusedSimpArgs false
namespace Go.Proofs.YtmemgpcgjephmaaDoor
open Go.RowKit
attribute [local irreducible] Oper.wp Sem.run Code.wp wpList wpAnyO callFunc execOp Calls
attribute [local irreducible] toU enc encR rightB vcmp pB okc hashB hashF overN partN overI RtA RwA PtA partsN

set_option maxRecDepth 100000 in
theorem right18_ok (t : Tb) (htn : Bytes t.nm) (htc : CsOk t.cs) (htb : VsOk t.bd) (ca ba : Option Addr) (cca cba : Nat) (hcc : t.cs.length ≤ cca) (b : List Nat) (hb : Bytes b) (ab : Option Addr) (cb : Nat) (w : World) (hl : LaidV w) (hCG : SlG (hw w) ca (List.flatMap cc t.cs)) (hBG : SlG (hw w) ba (List.flatMap vl t.bd)) (hG : SlG (hw w) ab (bv b)) : Calls Tryd.prog 5 #[.agg #[.string (bs t.nm), .slice ca t.cs.length cca, .int .i64 t.key, .int .i64 t.pt, .slice ba t.bd.length cba], .slice ab b.length cb] w (PostR w fun v => v = .bool true) := by
 have hS := St.start w
 refine c_enter Tryd.func5 rfl rfl rfl ?_
 refine wp_seq_k (fun K1 hK1 => ?_)
 refine wp_region_lit ?_
 refine l_e rfl (fun K hK => ?_)
 refine e_boxA hS rfl (fun b2 w2 (hS2 : St _ _ [.blk b2 (.cells #[.string (bs t.nm), .slice ca t.cs.length cca, .int .i64 t.key, .int .i64 t.pt, .slice ba t.bd.length cba] 29)] _) => ?_)
 clear hS
 refine hK _ _ ?_; clear hK K
 refine l_q rfl rfl (q_assignB rfl) ?_
 refine l_nil ?_
 refine hK1 _ _ ?_
 refine wp_seq_k (fun K3 hK3 => ?_)
 refine wp_region_lit ?_
 refine l_q rfl rfl (q_loadA (m := 5) rfl (by kernel_rfl) (by kernel_rfl) (hS2.blk (i := 0) rfl) rfl rfl) ?_
 refine l_e rfl (fun K hK => ?_)
 refine e_call (by kernel_rfl) (few_ok t htn htc htb t.cs.length t.bd.length (by first | omega | (simp only [lls] <;> omega)) (by first | omega | (simp only [lls] <;> omega))  _ _ _ _ _ (hCG.mono hS2.base) (hBG.mono hS2.base)) rfl (after_R hS2 (fun v4 w4 hv4 hS4 => ?_))
 clear hS2
 obtain rfl := hv4
 refine hK _ _ ?_; clear hK K
 refine l_q rfl rfl (q_assignB rfl) ?_
 refine l_nil ?_
 refine hK3 _ _ ?_
 refine wp_seq_k (fun K5 hK5 => ?_)
 refine wp_seq_k (fun K6 hK6 => ?_)
 refine wp_region_lit ?_
 refine l_q rfl rfl (q_moveB rfl) ?_
 refine l_q rfl rfl (q_not rfl) ?_
 refine l_q rfl rfl (q_moveB rfl) ?_
 refine g_splitL (t := 11) rfl (fun hg7 => ?_) (fun hg7 => ?_)
 ·
  have hg7b := hg7
  try simp only [decide_eq_true_eq, decide_eq_false_iff_not, Bool.not_eq_true', Bool.not_eq_false', Bool.and_eq_true, Bool.or_eq_true, Int.not_lt, Int.not_le, ne_eq, Decidable.not_not] at hg7
  refine l_off rfl rfl rfl hg7b ?_
  refine l_off rfl rfl rfl hg7b ?_
  refine l_off rfl rfl rfl hg7b ?_
  refine l_q rfl rfl (q_pickT rfl hg7b rfl) ?_
  refine l_nil ?_
  refine hK6 _ _ ?_
  refine c_condT rfl rfl ?_
  refine wp_seq_k (fun K9 hK9 => ?_)
  refine wp_region_lit ?_
  refine l_e rfl (fun K hK => ?_)
  refine e_call (by kernel_rfl) (alive18_ok _) rfl (after_R hS4 (fun v10 w10 hv10 hS10 => ?_))
  clear hS4
  obtain rfl := hv10
  refine hK _ _ ?_; clear hK K
  refine l_q rfl rfl (q_assignB rfl) ?_
  refine l_nil ?_
  refine hK9 _ _ ?_
  refine wp_ret ?_
  refine c_ret1 rfl rfl ?_
  exact ⟨_, rfl, rfl, hS10.drop⟩
 ·
  have hg7b := hg7
  try simp only [decide_eq_true_eq, decide_eq_false_iff_not, Bool.not_eq_true', Bool.not_eq_false', Bool.and_eq_true, Bool.or_eq_true, Int.not_lt, Int.not_le, ne_eq, Decidable.not_not] at hg7
  refine l_on rfl rfl hg7b ?_
  refine l_q rfl rfl (q_moveS rfl) ?_
  refine l_on rfl rfl hg7b ?_
  refine l_q rfl rfl (q_lenSl (e := 5) rfl (by kernel_rfl)) ?_
  refine l_on rfl rfl hg7b ?_
  refine l_q rfl rfl (q_gtr rfl rfl) ?_
  refine l_q rfl rfl (q_pickF rfl hg7b rfl) ?_
  refine l_nil ?_
  refine hK6 _ _ ?_
  refine c_cond rfl (fun hc11 => ?_) (fun hc11 => ?_)
  ·
   have hc11b := hc11
   try simp only [decide_eq_true_eq, decide_eq_false_iff_not, Bool.not_eq_true', Bool.not_eq_false', Bool.and_eq_true, Bool.or_eq_true, Int.not_lt, Int.not_le, ne_eq, Decidable.not_not] at hc11
   refine wp_seq_k (fun K12 hK12 => ?_)
   refine wp_region_lit ?_
   refine l_e rfl (fun K hK => ?_)
   refine e_call (by kernel_rfl) (alive18_ok _) rfl (after_R hS4 (fun v13 w13 hv13 hS13 => ?_))
   clear hS4
   obtain rfl := hv13
   refine hK _ _ ?_; clear hK K
   refine l_q rfl rfl (q_assignB rfl) ?_
   refine l_nil ?_
   refine hK12 _ _ ?_
   refine wp_ret ?_
   refine c_ret1 rfl rfl ?_
   exact ⟨_, rfl, rfl, hS13.drop⟩
  ·
   have hc11b := hc11
   try simp only [decide_eq_true_eq, decide_eq_false_iff_not, Bool.not_eq_true', Bool.not_eq_false', Bool.and_eq_true, Bool.or_eq_true, Int.not_lt, Int.not_le, ne_eq, Decidable.not_not] at hc11
   refine wp_skip ?_
   refine hK5 _ _ ?_
   refine wp_seq_k (fun K14 hK14 => ?_)
   refine r_any (by kernel_rfl) hS4 (fun w15 hS15 => ?_)
   clear hS4
   refine o_held (i := 0) [1, 3, 4, 5] (fun _ _ => trivial) rfl rfl (by kernel_rfl) (goes0 rfl) (QOk.then QOk.body) (q_loadA (m := 5) rfl (by kernel_rfl) (by kernel_rfl) (hS15.blk (i := 0) rfl) rfl rfl) ?_
   refine o_held (i := 2) [3, 4, 5] (fun j w => ⟨(fun _ _ => trivial) j w, fun _ h => h⟩) rfl rfl (by kernel_rfl) (goes0 rfl) (QOk.then QOk.body) (q_loadA (m := 5) rfl (by kernel_rfl) (by kernel_rfl) (hS15.blk (i := 0) rfl) rfl rfl) ?_
   by_cases hRt : RtP t
   ·
    have hfw : FewP t := pB_iff.1 (by assumption)
    obtain ⟨hfw1, hfw2, hfw3, hfw4, _⟩ := hfw
    have hcm0 : ∀ (i : Nat) (c : Co), t.cs[i]? = some c → c.nm.length ≤ 9223372036854775807 := fun i c h => Nat.le_trans (hfw4 i c h) (by decide)
    refine o_eff (i := 1) (by kernel_rfl) rfl (goes0 rfl) (fun K hK => ?_)
    refine e_call (by kernel_rfl) (cright_yes t htn htc htb t.cs.length t.bd.length (by first | omega | (simp only [lls] <;> omega)) (by first | omega | (simp only [lls] <;> omega)) (by first | omega | (simp only [lls] <;> omega)) (by first | omega | (simp only [lls] <;> omega)) hRt _ _ _ _ _ (hCG.mono hS15.base) (hBG.mono hS15.base) (by first | omega | assumption)) rfl (after_N hS15 (fun v16 G16 w16 hv16 hS16 => ?_))
    clear hS15
    obtain ⟨rfl, rfl⟩ := hv16
    have hS17 : St _ _ [_] _ := hS16; clear hS16
    refine hK _ _ ⟨⟨trivial, fun h => absurd h (by decide)⟩, fun _ _ => by first | exact q_loadA (m := 5) rfl (by kernel_rfl) (by kernel_rfl) (hS17.blk (i := 0) rfl) rfl rfl⟩ ?_; clear hK K
    refine o_eff (i := 3) (by kernel_rfl) rfl (goes0 rfl) (fun K hK => ?_)
    refine e_call (by kernel_rfl) (rright18_ok t htn htc htb t.cs.length t.bd.length (by first | omega | (simp only [lls] <;> omega)) (by first | omega | (simp only [lls] <;> omega)) (by first | omega | (simp only [lls] <;> omega)) (by first | omega | (simp only [lls] <;> omega)) (by first | omega | (simp only [lls] <;> omega)) hcm0 _ _ _ _ _ (hCG.mono hS17.base) (hBG.mono hS17.base)) rfl (after_R hS17 (fun v18 w18 hv18 hS18 => ?_))
    clear hS17
    obtain ⟨rc18, ra18, hra18, rfl⟩ := hv18
    refine hK _ _ ⟨⟨trivial, fun h => absurd h (by decide)⟩, fun h => absurd h (by decide)⟩ ?_; clear hK K
    refine o_eff (i := 4) (by kernel_rfl) rfl (goes0 rfl) (fun K hK => ?_)
    refine e_call (by kernel_rfl) (told_nil rc18 ra18 _ ((hl.keep id hS18))) rfl (after_R hS18 (fun v19 w19 hv19 hS19 => ?_))
    clear hS18
    obtain rfl := hv19
    refine hK _ _ ⟨⟨trivial, fun h => absurd h (by decide)⟩, fun h => absurd h (by decide)⟩ ?_; clear hK K
    refine o_pure (i := 5) (fun j w => ⟨(fun j w => ⟨(fun _ _ => trivial) j w, fun _ h => h⟩) j w, fun _ h => h⟩) rfl rfl (by kernel_rfl) (goes0 rfl) (QOk.then QOk.body) (fun w => q_assignB rfl) ?_
    refine o_done (by kernel_rfl) ?_
    refine hK14 _ _ ?_
    refine wp_seq_k (fun K20 hK20 => ?_)
    refine wp_region_lit ?_
    refine l_e rfl (fun K hK => ?_)
    refine e_call (by kernel_rfl) (alive18_ok _) rfl (after_R hS19 (fun v21 w21 hv21 hS21 => ?_))
    clear hS19
    obtain rfl := hv21
    refine hK _ _ ?_; clear hK K
    refine l_q rfl rfl (q_moveB rfl) ?_
    refine l_on rfl rfl rfl ?_
    refine l_q rfl rfl (q_moveB rfl) ?_
    refine l_q rfl rfl (q_pickT rfl rfl rfl) ?_
    refine l_q rfl rfl (q_moveB rfl) ?_
    refine l_on rfl rfl (decide_eq_true (by have h := hra18.yes hRt; omega)) ?_
    refine l_q rfl rfl (q_moveS rfl) ?_
    refine l_on rfl rfl (decide_eq_true (by have h := hra18.yes hRt; omega)) ?_
    refine l_e rfl (fun K hK => ?_)
    refine e_call (by kernel_rfl) (hash_ok b hb b.length (by first | omega | (simp only [lls] <;> omega)) (by first | omega | (simp only [lls] <;> omega)) _ _ _ (hG.mono hS21.base)) rfl (after_R hS21 (fun v23 w23 hv23 hS23 => ?_))
    clear hS21
    obtain rfl := hv23
    refine hK _ _ ?_; clear hK K
    refine l_on rfl rfl (decide_eq_true (by have h := hra18.yes hRt; omega)) ?_
    refine l_q rfl rfl (q_moveS rfl) ?_
    refine l_on rfl rfl (decide_eq_true (by have h := hra18.yes hRt; omega)) ?_
    refine l_e rfl (fun K hK => ?_)
    refine e_call (by kernel_rfl) (rhash_ok b hb b.length (by first | omega | (simp only [lls] <;> omega)) (by first | omega | (simp only [lls] <;> omega)) _ _ _ (hG.mono hS23.base)) rfl (after_R hS23 (fun v24 w24 hv24 hS24 => ?_))
    clear hS23
    obtain rfl := hv24
    refine hK _ _ ?_; clear hK K
    refine l_on rfl rfl (decide_eq_true (by have h := hra18.yes hRt; omega)) ?_
    refine l_q rfl rfl (q_eql rfl rfl) ?_
    refine l_q rfl rfl (q_pickT rfl (decide_eq_true (by have h := hra18.yes hRt; omega)) rfl) ?_
    refine l_q rfl rfl (q_assignB rfl) ?_
    refine l_nil ?_
    refine hK20 _ _ ?_
    refine wp_ret ?_
    refine c_ret1 rfl rfl ?_
    exact ⟨_, rfl, congrArg Value.bool (decide_eq_true rfl), hS24.drop⟩
   ·
    have hfw : FewP t := pB_iff.1 (by assumption)
    obtain ⟨hfw1, hfw2, hfw3, hfw4, _⟩ := hfw
    have hcm0 : ∀ (i : Nat) (c : Co), t.cs[i]? = some c → c.nm.length ≤ 9223372036854775807 := fun i c h => Nat.le_trans (hfw4 i c h) (by decide)
    refine o_eff (i := 1) (by kernel_rfl) rfl (goes0 rfl) (fun K hK => ?_)
    refine e_call (by kernel_rfl) (cright_no t htn htc htb t.cs.length t.bd.length (by first | omega | (simp only [lls] <;> omega)) (by first | omega | (simp only [lls] <;> omega)) (by first | omega | (simp only [lls] <;> omega)) (by first | omega | (simp only [lls] <;> omega)) hRt _ _ _ _ _ (hCG.mono hS15.base) (hBG.mono hS15.base) (by first | omega | assumption)) rfl (after_N hS15 (fun v25 G25 w25 hv25 hS25 => ?_))
    clear hS15
    obtain ⟨p25, b25, hpa25, rfl, rfl⟩ := hv25
    have hS26 : St _ _ [.blk b25 (.cells #[.int .i64 (182 : Int), .int .i64 p25, _] 87), _] _ := hS25; clear hS25
    refine hK _ _ ⟨⟨trivial, fun h => absurd h (by decide)⟩, fun _ _ => by first | exact q_loadA (m := 5) rfl (by kernel_rfl) (by kernel_rfl) (hS26.blk (i := 1) rfl) rfl rfl⟩ ?_; clear hK K
    refine o_eff (i := 3) (by kernel_rfl) rfl (goes0 rfl) (fun K hK => ?_)
    refine e_call (by kernel_rfl) (rright18_ok t htn htc htb t.cs.length t.bd.length (by first | omega | (simp only [lls] <;> omega)) (by first | omega | (simp only [lls] <;> omega)) (by first | omega | (simp only [lls] <;> omega)) (by first | omega | (simp only [lls] <;> omega)) (by first | omega | (simp only [lls] <;> omega)) hcm0 _ _ _ _ _ (hCG.mono hS26.base) (hBG.mono hS26.base)) rfl (after_R hS26 (fun v27 w27 hv27 hS27 => ?_))
    clear hS26
    obtain ⟨rc27, ra27, hra27, rfl⟩ := hv27
    refine hK _ _ ⟨⟨trivial, fun h => absurd h (by decide)⟩, fun h => absurd h (by decide)⟩ ?_; clear hK K
    refine o_eff (i := 4) (by kernel_rfl) rfl (goes0 rfl) (fun K hK => ?_)
    refine e_call (by kernel_rfl) (told_flt 182 p25 b25 (by decide) rc27 ra27 _ ((hl.keep id hS27)) (hS27.blk (i := 0) rfl)) rfl (after_R hS27 (fun v28 w28 hv28 hS28 => ?_))
    clear hS27
    obtain rfl := hv28
    refine hK _ _ ⟨⟨trivial, fun h => absurd h (by decide)⟩, fun h => absurd h (by decide)⟩ ?_; clear hK K
    refine o_pure (i := 5) (fun j w => ⟨(fun j w => ⟨(fun _ _ => trivial) j w, fun _ h => h⟩) j w, fun _ h => h⟩) rfl rfl (by kernel_rfl) (goes0 rfl) (QOk.then QOk.body) (fun w => q_assignB rfl) ?_
    refine o_done (by kernel_rfl) ?_
    refine hK14 _ _ ?_
    refine wp_seq_k (fun K29 hK29 => ?_)
    refine wp_region_lit ?_
    refine l_e rfl (fun K hK => ?_)
    refine e_call (by kernel_rfl) (alive18_ok _) rfl (after_R hS28 (fun v30 w30 hv30 hS30 => ?_))
    clear hS28
    obtain rfl := hv30
    refine hK _ _ ?_; clear hK K
    refine l_q rfl rfl (q_moveB rfl) ?_
    refine l_on rfl rfl rfl ?_
    refine l_q rfl rfl (q_moveB rfl) ?_
    refine l_q rfl rfl (q_pickT rfl rfl rfl) ?_
    refine l_q rfl rfl (q_moveB rfl) ?_
    refine l_on rfl rfl (decide_eq_true (by have h := RtA.fun' hpa25 hra27; omega)) ?_
    refine l_q rfl rfl (q_moveS rfl) ?_
    refine l_on rfl rfl (decide_eq_true (by have h := RtA.fun' hpa25 hra27; omega)) ?_
    refine l_e rfl (fun K hK => ?_)
    refine e_call (by kernel_rfl) (hash_ok b hb b.length (by first | omega | (simp only [lls] <;> omega)) (by first | omega | (simp only [lls] <;> omega)) _ _ _ (hG.mono hS30.base)) rfl (after_R hS30 (fun v32 w32 hv32 hS32 => ?_))
    clear hS30
    obtain rfl := hv32
    refine hK _ _ ?_; clear hK K
    refine l_on rfl rfl (decide_eq_true (by have h := RtA.fun' hpa25 hra27; omega)) ?_
    refine l_q rfl rfl (q_moveS rfl) ?_
    refine l_on rfl rfl (decide_eq_true (by have h := RtA.fun' hpa25 hra27; omega)) ?_
    refine l_e rfl (fun K hK => ?_)
    refine e_call (by kernel_rfl) (rhash_ok b hb b.length (by first | omega | (simp only [lls] <;> omega)) (by first | omega | (simp only [lls] <;> omega)) _ _ _ (hG.mono hS32.base)) rfl (after_R hS32 (fun v33 w33 hv33 hS33 => ?_))
    clear hS32
    obtain rfl := hv33
    refine hK _ _ ?_; clear hK K
    refine l_on rfl rfl (decide_eq_true (by have h := RtA.fun' hpa25 hra27; omega)) ?_
    refine l_q rfl rfl (q_eql rfl rfl) ?_
    refine l_q rfl rfl (q_pickT rfl (decide_eq_true (by have h := RtA.fun' hpa25 hra27; omega)) rfl) ?_
    refine l_q rfl rfl (q_assignB rfl) ?_
    refine l_nil ?_
    refine hK29 _ _ ?_
    refine wp_ret ?_
    refine c_ret1 rfl rfl ?_
    exact ⟨_, rfl, congrArg Value.bool (decide_eq_true rfl), hS33.drop⟩

end Go.Proofs.YtmemgpcgjephmaaDoor
