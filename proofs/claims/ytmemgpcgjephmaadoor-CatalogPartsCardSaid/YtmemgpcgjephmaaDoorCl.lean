/- law18: CatalogParts. -/
import Derived.Test.YtmemgpcgjephmaaDoorCk
set_option linter.unusedVariables false
set_option linter.unusedSimpArgs false
namespace Go.Proofs.YtmemgpcgjephmaaDoor
open Go.RowKit
attribute [local irreducible] Oper.wp Sem.run Code.wp wpList wpAnyO callFunc execOp Calls
attribute [local irreducible] toU enc encR rightB vcmp pB okc hashB hashF overN partN overI RtA RwA PtA partsN

set_option maxHeartbeats 4000000 in
set_option maxRecDepth 100000 in
theorem parts18_ok (t : Tb) (htn : Bytes t.nm) (htc : CsOk t.cs) (htb : VsOk t.bd) (ca ba : Option Addr) (cca cba : Nat) (hcc : t.cs.length ≤ cca) (L M : List Vl) (hL : VsOk L) (hM : VsOk M) (al am : Option Addr) (cl cm : Nat) (hlm : L.length ≤ 9223372036854775807) (hmm : M.length ≤ 9223372036854775807) (hcl : L.length ≤ cl) (hcm : M.length ≤ cm) (w : World) (hl : LaidV w) (hCG : SlG (hw w) ca (List.flatMap cc t.cs)) (hBG : SlG (hw w) ba (List.flatMap vl t.bd)) (hG : SlG (hw w) al (List.flatMap vl L)) (hGm : SlG (hw w) am (List.flatMap vl M)) : Calls Tryd.prog 6 #[.agg #[.string (bs t.nm), .slice ca t.cs.length cca, .int .i64 t.key, .int .i64 t.pt, .slice ba t.bd.length cba], .slice al L.length cl, .slice am M.length cm] w (PostR w fun v => v = .bool true) := by
 have hS := St.start w
 refine c_enter Tryd.func6 rfl rfl rfl ?_
 refine wp_seq_k (fun K1 hK1 => ?_)
 refine wp_region_lit ?_
 refine l_e rfl (fun K hK => ?_)
 refine e_boxA hS rfl (fun b2 w2 (hS2 : St _ _ [.blk b2 (.cells #[.string (bs t.nm), .slice ca t.cs.length cca, .int .i64 t.key, .int .i64 t.pt, .slice ba t.bd.length cba] 29)] _) => ?_)
 clear hS
 refine hK _ _ ?_; clear hK K
 refine l_q rfl rfl (q_assignB rfl) ?_
 refine l_nil ?_
 refine hK1 _ _ ?_
 refine wp_seq_k (fun K3 hK3 => ?_)
 refine wp_region_lit ?_
 refine l_q rfl rfl (q_loadA (m := 5) rfl (by kernel_rfl) (by kernel_rfl) (hS2.blk (i := 0) rfl) rfl rfl) ?_
 refine l_e rfl (fun K hK => ?_)
 refine e_call (by kernel_rfl) (few_ok t htn htc htb t.cs.length t.bd.length (by first | omega | (simp only [lls] <;> omega)) (by first | omega | (simp only [lls] <;> omega))  _ _ _ _ _ (hCG.mono hS2.base) (hBG.mono hS2.base)) rfl (after_R hS2 (fun v4 w4 hv4 hS4 => ?_))
 clear hS2
 obtain rfl := hv4
 refine hK _ _ ?_; clear hK K
 refine l_q rfl rfl (q_assignB rfl) ?_
 refine l_nil ?_
 refine hK3 _ _ ?_
 refine wp_seq_k (fun K5 hK5 => ?_)
 refine wp_region_lit ?_
 refine l_q rfl rfl (q_moveS rfl) ?_
 refine l_e rfl (fun K hK => ?_)
 refine e_call (by kernel_rfl) (short_ok L hL L.length (by first | omega | (simp only [lls] <;> omega)) _ _ _ (hG.mono hS4.base)) rfl (after_R hS4 (fun v6 w6 hv6 hS6 => ?_))
 clear hS4
 obtain rfl := hv6
 refine hK _ _ ?_; clear hK K
 refine l_q rfl rfl (q_assignB rfl) ?_
 refine l_nil ?_
 refine hK5 _ _ ?_
 refine wp_seq_k (fun K7 hK7 => ?_)
 refine wp_region_lit ?_
 refine l_q rfl rfl (q_moveS rfl) ?_
 refine l_e rfl (fun K hK => ?_)
 refine e_call (by kernel_rfl) (short_ok M hM M.length (by first | omega | (simp only [lls] <;> omega)) _ _ _ (hGm.mono hS6.base)) rfl (after_R hS6 (fun v8 w8 hv8 hS8 => ?_))
 clear hS6
 obtain rfl := hv8
 refine hK _ _ ?_; clear hK K
 refine l_q rfl rfl (q_assignB rfl) ?_
 refine l_nil ?_
 refine hK7 _ _ ?_
 refine wp_seq_k (fun K9 hK9 => ?_)
 refine wp_seq_k (fun K10 hK10 => ?_)
 refine wp_region_lit ?_
 refine l_q rfl rfl (q_moveB rfl) ?_
 refine l_q rfl rfl (q_not rfl) ?_
 refine l_q rfl rfl (q_moveB rfl) ?_
 refine g_splitL (t := 29) rfl (fun hg11 => ?_) (fun hg11 => ?_)
 ·
  have hg11b := hg11
  try simp only [decide_eq_true_eq, decide_eq_false_iff_not, Bool.not_eq_true', Bool.not_eq_false', Bool.and_eq_true, Bool.or_eq_true, Int.not_lt, Int.not_le, ne_eq, Decidable.not_not] at hg11
  refine l_off rfl rfl rfl hg11b ?_
  refine l_off rfl rfl rfl hg11b ?_
  refine l_q rfl rfl (q_pickT rfl hg11b rfl) ?_
  refine l_q rfl rfl (q_moveB rfl) ?_
  refine l_off rfl rfl rfl rfl ?_
  refine l_off rfl rfl rfl rfl ?_
  refine l_q rfl rfl (q_pickT rfl rfl rfl) ?_
  refine l_q rfl rfl (q_moveB rfl) ?_
  refine l_off rfl rfl rfl rfl ?_
  refine l_off rfl rfl rfl rfl ?_
  refine l_off rfl rfl rfl rfl ?_
  refine l_q rfl rfl (q_pickT rfl rfl rfl) ?_
  refine l_nil ?_
  refine hK10 _ _ ?_
  refine c_condT rfl rfl ?_
  refine wp_seq_k (fun K13 hK13 => ?_)
  refine wp_region_lit ?_
  refine l_e rfl (fun K hK => ?_)
  refine e_call (by kernel_rfl) (alive18_ok _) rfl (after_R hS8 (fun v14 w14 hv14 hS14 => ?_))
  clear hS8
  obtain rfl := hv14
  refine hK _ _ ?_; clear hK K
  refine l_q rfl rfl (q_assignB rfl) ?_
  refine l_nil ?_
  refine hK13 _ _ ?_
  refine wp_ret ?_
  refine c_ret1 rfl rfl ?_
  exact ⟨_, rfl, rfl, hS14.drop⟩
 ·
  have hg11b := hg11
  try simp only [decide_eq_true_eq, decide_eq_false_iff_not, Bool.not_eq_true', Bool.not_eq_false', Bool.and_eq_true, Bool.or_eq_true, Int.not_lt, Int.not_le, ne_eq, Decidable.not_not] at hg11
  refine l_on rfl rfl hg11b ?_
  refine l_q rfl rfl (q_moveB rfl) ?_
  refine l_on rfl rfl hg11b ?_
  refine l_q rfl rfl (q_not rfl) ?_
  refine l_q rfl rfl (q_pickF rfl hg11b rfl) ?_
  refine l_q rfl rfl (q_moveB rfl) ?_
  refine g_splitL (t := 33) rfl (fun hg15 => ?_) (fun hg15 => ?_)
  ·
   have hg15b := hg15
   try simp only [decide_eq_true_eq, decide_eq_false_iff_not, Bool.not_eq_true', Bool.not_eq_false', Bool.and_eq_true, Bool.or_eq_true, Int.not_lt, Int.not_le, ne_eq, Decidable.not_not] at hg15
   refine l_off rfl rfl rfl hg15b ?_
   refine l_off rfl rfl rfl hg15b ?_
   refine l_q rfl rfl (q_pickT rfl hg15b rfl) ?_
   refine l_q rfl rfl (q_moveB rfl) ?_
   refine l_off rfl rfl rfl rfl ?_
   refine l_off rfl rfl rfl rfl ?_
   refine l_off rfl rfl rfl rfl ?_
   refine l_q rfl rfl (q_pickT rfl rfl rfl) ?_
   refine l_nil ?_
   refine hK10 _ _ ?_
   refine c_condT rfl rfl ?_
   refine wp_seq_k (fun K17 hK17 => ?_)
   refine wp_region_lit ?_
   refine l_e rfl (fun K hK => ?_)
   refine e_call (by kernel_rfl) (alive18_ok _) rfl (after_R hS8 (fun v18 w18 hv18 hS18 => ?_))
   clear hS8
   obtain rfl := hv18
   refine hK _ _ ?_; clear hK K
   refine l_q rfl rfl (q_assignB rfl) ?_
   refine l_nil ?_
   refine hK17 _ _ ?_
   refine wp_ret ?_
   refine c_ret1 rfl rfl ?_
   exact ⟨_, rfl, rfl, hS18.drop⟩
  ·
   have hg15b := hg15
   try simp only [decide_eq_true_eq, decide_eq_false_iff_not, Bool.not_eq_true', Bool.not_eq_false', Bool.and_eq_true, Bool.or_eq_true, Int.not_lt, Int.not_le, ne_eq, Decidable.not_not] at hg15
   refine l_on rfl rfl hg15b ?_
   refine l_q rfl rfl (q_moveB rfl) ?_
   refine l_on rfl rfl hg15b ?_
   refine l_q rfl rfl (q_not rfl) ?_
   refine l_q rfl rfl (q_pickF rfl hg15b rfl) ?_
   refine l_q rfl rfl (q_moveB rfl) ?_
   refine g_splitL (t := 37) rfl (fun hg19 => ?_) (fun hg19 => ?_)
   ·
    have hg19b := hg19
    try simp only [decide_eq_true_eq, decide_eq_false_iff_not, Bool.not_eq_true', Bool.not_eq_false', Bool.and_eq_true, Bool.or_eq_true, Int.not_lt, Int.not_le, ne_eq, Decidable.not_not] at hg19
    refine l_off rfl rfl rfl hg19b ?_
    refine l_off rfl rfl rfl hg19b ?_
    refine l_off rfl rfl rfl hg19b ?_
    refine l_q rfl rfl (q_pickT rfl hg19b rfl) ?_
    refine l_nil ?_
    refine hK10 _ _ ?_
    refine c_condT rfl rfl ?_
    refine wp_seq_k (fun K21 hK21 => ?_)
    refine wp_region_lit ?_
    refine l_e rfl (fun K hK => ?_)
    refine e_call (by kernel_rfl) (alive18_ok _) rfl (after_R hS8 (fun v22 w22 hv22 hS22 => ?_))
    clear hS8
    obtain rfl := hv22
    refine hK _ _ ?_; clear hK K
    refine l_q rfl rfl (q_assignB rfl) ?_
    refine l_nil ?_
    refine hK21 _ _ ?_
    refine wp_ret ?_
    refine c_ret1 rfl rfl ?_
    exact ⟨_, rfl, rfl, hS22.drop⟩
   ·
    have hg19b := hg19
    try simp only [decide_eq_true_eq, decide_eq_false_iff_not, Bool.not_eq_true', Bool.not_eq_false', Bool.and_eq_true, Bool.or_eq_true, Int.not_lt, Int.not_le, ne_eq, Decidable.not_not] at hg19
    refine l_on rfl rfl hg19b ?_
    refine l_q rfl rfl (q_loadA (m := 5) rfl (by kernel_rfl) (by kernel_rfl) (hS8.blk (i := 0) rfl) rfl rfl) ?_
    by_cases hRt : RtP t
    ·
     have hfw : FewP t := pB_iff.1 (by assumption)
     obtain ⟨hfw1, hfw2, hfw3, _⟩ := hfw
     have hsL := (pB_iff.1 (show pB (ShP L) = true by assumption)).1
     have hsM := (pB_iff.1 (show pB (ShP M) = true by assumption)).1
     have hRt' := hRt
     obtain ⟨⟨_, hq1, hq2, hq3, hq4, hq5, hq6, _⟩, _⟩ := hRt'
     refine l_on rfl rfl hg19b ?_
     refine l_e rfl (fun K hK => ?_)
     refine e_call (by kernel_rfl) (cright_yes t htn htc htb t.cs.length t.bd.length (by first | omega | (simp only [lls] <;> omega)) (by first | omega | (simp only [lls] <;> omega)) (by first | omega | (simp only [lls] <;> omega)) (by first | omega | (simp only [lls] <;> omega)) hRt _ _ _ _ _ (hCG.mono hS8.base) (hBG.mono hS8.base) (by first | omega | assumption)) rfl (after_N hS8 (fun v23 G23 w23 hv23 hS23 => ?_))
     clear hS8
     obtain ⟨rfl, rfl⟩ := hv23
     have hS24 : St _ _ [_] _ := hS23; clear hS23
     refine hK _ _ ?_; clear hK K
     refine l_on rfl rfl hg19b ?_
     refine l_q rfl rfl (q_ine1 rfl (by kernel_rfl)) ?_
     refine l_q rfl rfl (q_pickF rfl hg19b rfl) ?_
     refine l_nil ?_
     refine hK10 _ _ ?_
     refine c_condF rfl rfl ?_
     refine wp_skip ?_
     refine hK9 _ _ ?_
     refine wp_seq_k (fun K26 hK26 => ?_)
     refine wp_region_lit ?_
     refine l_q rfl rfl (q_loadA (m := 5) rfl (by kernel_rfl) (by kernel_rfl) (hS24.blk (i := 0) rfl) rfl rfl) ?_
     refine l_q rfl rfl (q_moveS rfl) ?_
     by_cases hPt : PtP t L ∧ KdTo t L L.length
     ·
      refine l_e rfl (fun K hK => ?_)
      refine e_call (by kernel_rfl) (cpart_yes t htn htc htb t.cs.length t.bd.length (by first | omega | (simp only [lls] <;> omega)) (by first | omega | (simp only [lls] <;> omega)) (by first | omega | (simp only [lls] <;> omega)) (by first | omega | (simp only [lls] <;> omega)) hRt L hPt hL L.length (by first | omega | (simp only [lls] <;> omega)) _ _ (by first | omega | (simp only [lls] <;> omega)) (hG.mono hS24.base) _ _ _ _ (hCG.mono hS24.base) (hBG.mono hS24.base)) rfl (after_N hS24 (fun v27 G27 w27 hv27 hS27 => ?_))
      clear hS24
      obtain ⟨rfl, rfl⟩ := hv27
      have hS28 : St _ _ [_] _ := hS27; clear hS27
      refine hK _ _ ?_; clear hK K
      refine l_q rfl rfl (q_move rfl) ?_
      refine l_q rfl rfl (q_extract rfl rfl) ?_
      refine l_q rfl rfl (q_extract rfl rfl) ?_
      refine l_q rfl rfl (q_assignI rfl) ?_
      refine l_q rfl rfl (q_assign rfl) ?_
      refine l_nil ?_
      refine hK26 _ _ ?_
      refine wp_seq_k (fun K29 hK29 => ?_)
      refine wp_region_lit ?_
      refine l_q rfl rfl (q_loadA (m := 5) rfl (by kernel_rfl) (by kernel_rfl) (hS28.blk (i := 0) rfl) rfl rfl) ?_
      refine l_q rfl rfl (q_moveS rfl) ?_
      refine l_e rfl (fun K hK => ?_)
      refine e_call (by kernel_rfl) (rpart_ok t htn htc htb t.cs.length t.bd.length (by first | omega | (simp only [lls] <;> omega)) (by first | omega | (simp only [lls] <;> omega)) (by first | omega | (simp only [lls] <;> omega)) (by first | omega | (simp only [lls] <;> omega)) hRt L hL L.length (by first | omega | (simp only [lls] <;> omega)) _ _ (by first | omega | (simp only [lls] <;> omega)) (hG.mono hS28.base) _ _ _ _ (hCG.mono hS28.base) (hBG.mono hS28.base)) rfl (after_R hS28 (fun v30 w30 hv30 hS30 => ?_))
      clear hS28
      obtain ⟨zn30, zc30, za30, hz30, rfl⟩ := hv30
      refine hK _ _ ?_; clear hK K
      refine l_q rfl rfl (q_move rfl) ?_
      refine l_q rfl rfl (q_extract rfl rfl) ?_
      refine l_q rfl rfl (q_extract rfl rfl) ?_
      refine l_e rfl (fun K hK => ?_)
      refine e_alloc (zv := .agg #[.int .i64 0, .int .i64 0]) hS30 (by kernel_rfl) (fun b31 w31 (hS31 : St _ _ [.blk b31 (.cells #[.int .i64 (0 : Int), .int .i64 (0 : Int)] 51), _] _) => ?_)
      clear hS30
      refine hK _ _ ?_; clear hK K
      refine l_q rfl rfl (q_assignI rfl) ?_
      refine l_e rfl (fun K hK => ?_)
      refine e_storeA hS31 rfl rfl (by kernel_rfl) (by repeat' (first | exact trivial | refine ⟨by first | rfl | assumption | exact one_if (by assumption), ?_⟩)) (i := 0) rfl rfl (fun w32 (hS32 : St _ _ [.blk b31 (.cells #[.int .i64 zc30, .int .i64 za30] 51), _] _) => ?_)
      clear hS31
      refine hK _ _ ?_; clear hK K
      refine l_nil ?_
      refine hK29 _ _ ?_
      refine wp_seq_k (fun K33 hK33 => ?_)
      refine wp_region_lit ?_
      refine l_q rfl rfl (q_loadA (m := 5) rfl (by kernel_rfl) (by kernel_rfl) (hS32.blk (i := 1) rfl) rfl rfl) ?_
      refine l_q rfl rfl (q_moveS rfl) ?_
      by_cases hRa : RwP t M
      ·
       refine l_e rfl (fun K hK => ?_)
       refine e_call (by kernel_rfl) (crow_yes t htn htc htb t.cs.length t.bd.length (by first | omega | (simp only [lls] <;> omega)) (by first | omega | (simp only [lls] <;> omega)) (by first | omega | (simp only [lls] <;> omega)) (by first | omega | (simp only [lls] <;> omega)) hRt M hRa hM M.length (by first | omega | (simp only [lls] <;> omega)) (by first | omega | (simp only [lls] <;> omega)) (by first | omega | assumption) _ _ (hGm.mono hS32.base) _ _ _ _ (hCG.mono hS32.base) (hBG.mono hS32.base)) rfl (after_N hS32 (fun v34 G34 w34 hv34 hS34 => ?_))
       clear hS32
       obtain ⟨ad34, cp34, rfl, rfl⟩ := hv34
       have hS35 : St _ _ [.ow 32 3 ad34 t.key.toNat cp34 (List.flatMap vl (M.take t.key.toNat)), _, _] _ := hS34; clear hS34
       refine hK _ _ ?_; clear hK K
       refine l_q rfl rfl (q_move rfl) ?_
       refine l_q rfl rfl (q_extract rfl rfl) ?_
       refine l_q rfl rfl (q_extract rfl rfl) ?_
       refine l_q rfl rfl (q_assignS rfl) ?_
       refine l_q rfl rfl (q_assign rfl) ?_
       refine l_nil ?_
       refine hK33 _ _ ?_
       refine wp_seq_k (fun K36 hK36 => ?_)
       refine wp_region_lit ?_
       refine l_q rfl rfl (q_loadA (m := 5) rfl (by kernel_rfl) (by kernel_rfl) (hS35.blk (i := 2) rfl) rfl rfl) ?_
       refine l_q rfl rfl (q_moveS rfl) ?_
       refine l_e rfl (fun K hK => ?_)
       refine e_call (by kernel_rfl) (rrow_yes t htn htc htb t.cs.length t.bd.length (by first | omega | (simp only [lls] <;> omega)) (by first | omega | (simp only [lls] <;> omega)) (by first | omega | (simp only [lls] <;> omega)) (by first | omega | (simp only [lls] <;> omega)) hRt M hRa hM M.length (by first | omega | (simp only [lls] <;> omega)) (by first | omega | (simp only [lls] <;> omega)) (by first | omega | assumption) _ _ (hGm.mono hS35.base) _ _ _ _ (hCG.mono hS35.base) (hBG.mono hS35.base)) rfl (after_N hS35 (fun v37 G37 w37 hv37 hS37 => ?_))
       clear hS35
       obtain ⟨ad37, cp37, rfl, rfl⟩ := hv37
       have hS38 : St _ _ [.ow 32 3 ad37 t.key.toNat cp37 (List.flatMap vl (M.take t.key.toNat)), _, _, _] _ := hS37; clear hS37
       refine hK _ _ ?_; clear hK K
       refine l_q rfl rfl (q_move rfl) ?_
       refine l_q rfl rfl (q_extract rfl rfl) ?_
       refine l_q rfl rfl (q_extract rfl rfl) ?_
       refine l_e rfl (fun K hK => ?_)
       refine e_alloc (zv := .agg #[.int .i64 0, .int .i64 0]) hS38 (by kernel_rfl) (fun b39 w39 (hS39 : St _ _ [.blk b39 (.cells #[.int .i64 (0 : Int), .int .i64 (0 : Int)] 51), _, _, _, _] _) => ?_)
       clear hS38
       refine hK _ _ ?_; clear hK K
       refine l_q rfl rfl (q_assignS rfl) ?_
       refine l_e rfl (fun K hK => ?_)
       refine e_storeA hS39 rfl rfl (by kernel_rfl) (by repeat' (first | exact trivial | refine ⟨by first | rfl | assumption | exact one_if (by assumption), ?_⟩)) (i := 0) rfl rfl (fun w40 (hS40 : St _ _ [.blk b39 (.cells #[.int .i64 (0 : Int), .int .i64 (-1 : Int)] 51), _, _, _, _] _) => ?_)
       clear hS39
       refine hK _ _ ?_; clear hK K
       refine l_nil ?_
       refine hK36 _ _ ?_
       refine wp_seq_k (fun K41 hK41 => ?_)
       refine wp_region_lit ?_
       refine l_q rfl rfl (q_move rfl) ?_
       refine l_q rfl rfl (q_loadA (m := 2) rfl (by kernel_rfl) (by kernel_rfl) (hS40.blk (i := 3) rfl) rfl rfl) ?_
       refine l_e rfl (fun K hK => ?_)
       refine e_call (by kernel_rfl) (told_nil zc30 za30 _ ((hl.keep id hS40))) rfl (after_R hS40 (fun v42 w42 hv42 hS42 => ?_))
       clear hS40
       obtain rfl := hv42
       refine hK _ _ ?_; clear hK K
       refine l_q rfl rfl (q_assignB rfl) ?_
       refine l_nil ?_
       refine hK41 _ _ ?_
       refine wp_seq_k (fun K43 hK43 => ?_)
       refine wp_region_lit ?_
       refine l_q rfl rfl (q_move rfl) ?_
       refine l_q rfl rfl (q_loadA (m := 2) rfl (by kernel_rfl) (by kernel_rfl) (hS42.blk (i := 0) rfl) rfl rfl) ?_
       refine l_e rfl (fun K hK => ?_)
       refine e_call (by kernel_rfl) (told_nil (0 : Int) (-1 : Int) _ ((hl.keep id hS42))) rfl (after_R hS42 (fun v44 w44 hv44 hS44 => ?_))
       clear hS42
       obtain rfl := hv44
       refine hK _ _ ?_; clear hK K
       refine l_q rfl rfl (q_assignB rfl) ?_
       refine l_nil ?_
       refine hK43 _ _ ?_
       refine wp_seq_k (fun K45 hK45 => ?_)
       have hkm := row_key hRt hRa
       have htlm : (M.take t.key.toNat).length = t.key.toNat := by have := hkm.2.2.1; omega
       refine wp_region_lit ?_
       refine l_q rfl rfl (q_moveS rfl) ?_
       refine l_q rfl rfl (q_moveS rfl) ?_
       refine l_e rfl (fun K hK => ?_)
       refine e_call (by kernel_rfl) (same_ok (M.take t.key.toNat) (M.take t.key.toNat) (VsOk.take hM) (VsOk.take hM) t.key.toNat t.key.toNat _ _ (by first | omega | (simp only [lls] <;> omega)) (by first | omega | (simp only [lls] <;> omega)) _ _ (by first | omega | (simp only [lls] <;> omega)) _ (hS44.owG (i := 2) rfl) (hS44.owG (i := 1) rfl)) rfl (after_R hS44 (fun v46 w46 hv46 hS46 => ?_))
       clear hS44
       obtain rfl := hv46
       refine hK _ _ ?_; clear hK K
       refine l_q rfl rfl (q_assignB rfl) ?_
       refine l_nil ?_
       refine hK45 _ _ ?_
       refine wp_seq_k (fun K47 hK47 => ?_)
       refine r_any (by kernel_rfl) hS46 (fun w48 hS48 => ?_)
       clear hS46
       refine o_eff (i := 0) (by kernel_rfl) rfl (goes0 rfl) (fun K hK => ?_)
       refine e_call (by kernel_rfl) (alive18_ok _) rfl (after_R hS48 (fun v49 w49 hv49 hS49 => ?_))
       clear hS48
       obtain rfl := hv49
       refine hK _ _ trivial ?_; clear hK K
       refine o_pure (i := 1) (fun _ _ => trivial) rfl rfl (by kernel_rfl) (goes0 rfl) (QOk.then QOk.body) (fun w => q_moveB rfl) ?_
       refine o_pure (i := 2) (fun _ _ => trivial) rfl rfl (by kernel_rfl) (goes1 rfl rfl rfl) (QOk.then QOk.body) (fun w => q_moveI rfl) ?_
       refine o_pure (i := 3) (fun _ _ => trivial) rfl rfl (by kernel_rfl) (goes1 rfl rfl rfl) (QOk.then QOk.body) (fun w => q_moveI rfl) ?_
       refine o_pure (i := 4) (fun _ _ => trivial) rfl rfl (by kernel_rfl) (goes1 rfl rfl rfl) (QOk.then QOk.body) (fun w => q_eql rfl rfl) ?_
       refine o_pure (i := 5) (fun _ _ => trivial) rfl rfl (by kernel_rfl) (goes0 rfl) (QOk.then QOk.body) (fun w => q_pickT rfl rfl rfl) ?_
       refine o_pure (i := 6) (fun _ _ => trivial) rfl rfl (by kernel_rfl) (goes0 rfl) (QOk.then QOk.body) (fun w => q_moveB rfl) ?_
       refine o_pure (i := 7) (fun _ _ => trivial) rfl rfl (by kernel_rfl) (goes1 rfl rfl (decide_eq_true (by have h := hz30.yes hPt.1 hPt.2; omega))) (QOk.then QOk.body) (fun w => q_moveB rfl) ?_
       refine o_pure (i := 8) (fun _ _ => trivial) rfl rfl (by kernel_rfl) (goes0 rfl) (QOk.then QOk.body) (fun w => q_pickT rfl (decide_eq_true (by have h := hz30.yes hPt.1 hPt.2; omega)) rfl) ?_
       refine o_pure (i := 9) (fun _ _ => trivial) rfl rfl (by kernel_rfl) (goes0 rfl) (QOk.then QOk.body) (fun w => q_moveB rfl) ?_
       refine o_pure (i := 10) (fun _ _ => trivial) rfl rfl (by kernel_rfl) (goes1 rfl rfl (decide_eq_true (by have h := hz30.yes hPt.1 hPt.2; omega))) (QOk.then QOk.body) (fun w => q_moveB rfl) ?_
       refine o_pure (i := 11) (fun _ _ => trivial) rfl rfl (by kernel_rfl) (goes0 rfl) (QOk.then QOk.body) (fun w => q_pickT rfl (decide_eq_true (by have h := hz30.yes hPt.1 hPt.2; omega)) rfl) ?_
       refine o_pure (i := 12) (fun _ _ => trivial) rfl rfl (by kernel_rfl) (goes0 rfl) (QOk.then QOk.body) (fun w => q_moveB rfl) ?_
       refine o_pure (i := 13) (fun _ _ => trivial) rfl rfl (by kernel_rfl) (goes1 rfl rfl (decide_eq_true rfl)) (QOk.then QOk.body) (fun w => q_moveB rfl) ?_
       refine o_pure (i := 14) (fun _ _ => trivial) rfl rfl (by kernel_rfl) (goes0 rfl) (QOk.then QOk.body) (fun w => q_pickT rfl (decide_eq_true rfl) rfl) ?_
       refine o_pure (i := 15) (fun _ _ => trivial) rfl rfl (by kernel_rfl) (goes0 rfl) (QOk.then QOk.body) (fun w => q_moveB rfl) ?_
       refine o_held (i := 16) [17, 19, 20, 21, 22] (fun _ _ => trivial) rfl rfl (by kernel_rfl) (goes1 rfl rfl (decide_eq_true (by omega))) (QOk.then QOk.body) (q_loadA (m := 5) rfl (by kernel_rfl) (by kernel_rfl) (hS49.blk (i := 4) rfl) rfl rfl) ?_
       refine o_held (i := 18) [19, 20, 21, 22] (fun j w => ⟨(fun _ _ => trivial) j w, fun _ h => h⟩) rfl rfl (by kernel_rfl) (goes1 rfl rfl (decide_eq_true (by omega))) (QOk.then QOk.body) (q_loadA (m := 5) rfl (by kernel_rfl) (by kernel_rfl) (hS49.blk (i := 4) rfl) rfl rfl) ?_
       refine o_eff (i := 17) (by kernel_rfl) rfl (goes1 rfl rfl (decide_eq_true (by omega))) (fun K hK => ?_)
       refine e_call (by kernel_rfl) (parts_ok t htn htc htb t.cs.length t.bd.length (by first | omega | (simp only [lls] <;> omega)) (by first | omega | (simp only [lls] <;> omega)) (by first | omega | (simp only [lls] <;> omega)) (by first | omega | (simp only [lls] <;> omega)) _ _ _ _ _ (hCG.mono hS49.base) (hBG.mono hS49.base)) rfl (after_R hS49 (fun v54 w54 hv54 hS54 => ?_))
       clear hS49
       obtain rfl := hv54
       refine hK _ _ ⟨⟨trivial, fun h => absurd h (by decide)⟩, fun _ _ => by first | exact q_loadA (m := 5) rfl (by kernel_rfl) (by kernel_rfl) (hS54.blk (i := 4) rfl) rfl rfl⟩ ?_; clear hK K
       refine o_eff (i := 19) (by kernel_rfl) rfl (goes1 rfl rfl (decide_eq_true (by omega))) (fun K hK => ?_)
       refine e_call (by kernel_rfl) (rparts_ok t htn htc htb t.cs.length t.bd.length (by first | omega | (simp only [lls] <;> omega)) (by first | omega | (simp only [lls] <;> omega)) (by first | omega | (simp only [lls] <;> omega)) (by first | omega | (simp only [lls] <;> omega)) _ _ _ _ _ (hCG.mono hS54.base) (hBG.mono hS54.base)) rfl (after_R hS54 (fun v55 w55 hv55 hS55 => ?_))
       clear hS54
       obtain rfl := hv55
       refine hK _ _ ⟨⟨trivial, fun h => absurd h (by decide)⟩, fun h => absurd h (by decide)⟩ ?_; clear hK K
       refine o_pure (i := 20) (fun j w => ⟨(fun j w => ⟨(fun _ _ => trivial) j w, fun _ h => h⟩) j w, fun _ h => h⟩) rfl rfl (by kernel_rfl) (goes1 rfl rfl (decide_eq_true (by omega))) (QOk.then QOk.body) (fun w => q_eql rfl rfl) ?_
       refine o_pure (i := 21) (fun j w => ⟨(fun j w => ⟨(fun _ _ => trivial) j w, fun _ h => h⟩) j w, fun _ h => h⟩) rfl rfl (by kernel_rfl) (goes0 rfl) (QOk.then QOk.body) (fun w => q_pickT rfl (decide_eq_true (by omega)) rfl) ?_
       refine o_pure (i := 22) (fun j w => ⟨(fun j w => ⟨(fun _ _ => trivial) j w, fun _ h => h⟩) j w, fun _ h => h⟩) rfl rfl (by kernel_rfl) (goes0 rfl) (QOk.then QOk.body) (fun w => q_assignB rfl) ?_
       refine o_done (by kernel_rfl) ?_
       refine hK47 _ _ ?_
       refine wp_ret ?_
       refine c_ret1 rfl rfl ?_
       exact ⟨_, rfl, congrArg Value.bool (decide_eq_true rfl), hS55.drop⟩
      ·
       refine l_e rfl (fun K hK => ?_)
       refine e_call (by kernel_rfl) (crow_no t htn htc htb t.cs.length t.bd.length (by first | omega | (simp only [lls] <;> omega)) (by first | omega | (simp only [lls] <;> omega)) (by first | omega | (simp only [lls] <;> omega)) (by first | omega | (simp only [lls] <;> omega)) hRt M hRa hM M.length (by first | omega | (simp only [lls] <;> omega)) (by first | omega | (simp only [lls] <;> omega)) (by first | omega | assumption) _ _ (hGm.mono hS32.base) _ _ _ _ (hCG.mono hS32.base) (hBG.mono hS32.base)) rfl (after_N hS32 (fun v56 G56 w56 hv56 hS56 => ?_))
       clear hS32
       obtain ⟨c56, p56, b56, hpa56, rfl, rfl⟩ := hv56
       have hS57 : St _ _ [.blk b56 (.cells #[.int .i64 c56, .int .i64 p56, _] 87), _, _] _ := hS56; clear hS56
       refine hK _ _ ?_; clear hK K
       refine l_q rfl rfl (q_move rfl) ?_
       refine l_q rfl rfl (q_extract rfl rfl) ?_
       refine l_q rfl rfl (q_extract rfl rfl) ?_
       refine l_q rfl rfl (q_assignS rfl) ?_
       refine l_q rfl rfl (q_assign rfl) ?_
       refine l_nil ?_
       refine hK33 _ _ ?_
       refine wp_seq_k (fun K58 hK58 => ?_)
       refine wp_region_lit ?_
       refine l_q rfl rfl (q_loadA (m := 5) rfl (by kernel_rfl) (by kernel_rfl) (hS57.blk (i := 2) rfl) rfl rfl) ?_
       refine l_q rfl rfl (q_moveS rfl) ?_
       refine l_e rfl (fun K hK => ?_)
       refine e_call (by kernel_rfl) (rrow_no t htn htc htb t.cs.length t.bd.length (by first | omega | (simp only [lls] <;> omega)) (by first | omega | (simp only [lls] <;> omega)) (by first | omega | (simp only [lls] <;> omega)) (by first | omega | (simp only [lls] <;> omega)) hRt M hRa hM M.length (by first | omega | (simp only [lls] <;> omega)) (by first | omega | (simp only [lls] <;> omega)) (by first | omega | assumption) _ _ (hGm.mono hS57.base) _ _ _ _ (hCG.mono hS57.base) (hBG.mono hS57.base)) rfl (after_N hS57 (fun v59 G59 w59 hv59 hS59 => ?_))
       clear hS57
       obtain ⟨qc59, qa59, hqa59, rfl, rfl⟩ := hv59
       have hS60 : St _ _ [_, _, _] _ := hS59; clear hS59
       refine hK _ _ ?_; clear hK K
       refine l_q rfl rfl (q_move rfl) ?_
       refine l_q rfl rfl (q_extract rfl rfl) ?_
       refine l_q rfl rfl (q_extract rfl rfl) ?_
       refine l_e rfl (fun K hK => ?_)
       refine e_alloc (zv := .agg #[.int .i64 0, .int .i64 0]) hS60 (by kernel_rfl) (fun b61 w61 (hS61 : St _ _ [.blk b61 (.cells #[.int .i64 (0 : Int), .int .i64 (0 : Int)] 51), _, _, _] _) => ?_)
       clear hS60
       refine hK _ _ ?_; clear hK K
       refine l_q rfl rfl (q_assignS rfl) ?_
       refine l_e rfl (fun K hK => ?_)
       refine e_storeA hS61 rfl rfl (by kernel_rfl) (by repeat' (first | exact trivial | refine ⟨by first | rfl | assumption | exact one_if (by assumption), ?_⟩)) (i := 0) rfl rfl (fun w62 (hS62 : St _ _ [.blk b61 (.cells #[.int .i64 qc59, .int .i64 qa59] 51), _, _, _] _) => ?_)
       clear hS61
       refine hK _ _ ?_; clear hK K
       refine l_nil ?_
       refine hK58 _ _ ?_
       refine wp_seq_k (fun K63 hK63 => ?_)
       refine wp_region_lit ?_
       refine l_q rfl rfl (q_move rfl) ?_
       refine l_q rfl rfl (q_loadA (m := 2) rfl (by kernel_rfl) (by kernel_rfl) (hS62.blk (i := 2) rfl) rfl rfl) ?_
       refine l_e rfl (fun K hK => ?_)
       refine e_call (by kernel_rfl) (told_nil zc30 za30 _ ((hl.keep id hS62))) rfl (after_R hS62 (fun v64 w64 hv64 hS64 => ?_))
       clear hS62
       obtain rfl := hv64
       refine hK _ _ ?_; clear hK K
       refine l_q rfl rfl (q_assignB rfl) ?_
       refine l_nil ?_
       refine hK63 _ _ ?_
       refine wp_seq_k (fun K65 hK65 => ?_)
       refine wp_region_lit ?_
       refine l_q rfl rfl (q_move rfl) ?_
       refine l_q rfl rfl (q_loadA (m := 2) rfl (by kernel_rfl) (by kernel_rfl) (hS64.blk (i := 0) rfl) rfl rfl) ?_
       refine l_e rfl (fun K hK => ?_)
       refine e_call (by kernel_rfl) (told_flt c56 p56 b56 hpa56.1 qc59 qa59 _ ((hl.keep id hS64)) (hS64.blk (i := 1) rfl)) rfl (after_R hS64 (fun v66 w66 hv66 hS66 => ?_))
       clear hS64
       obtain rfl := hv66
       refine hK _ _ ?_; clear hK K
       refine l_q rfl rfl (q_assignB rfl) ?_
       refine l_nil ?_
       refine hK65 _ _ ?_
       refine wp_seq_k (fun K67 hK67 => ?_)
       refine wp_region_lit ?_
       refine l_q rfl rfl (q_moveS rfl) ?_
       refine l_q rfl rfl (q_moveS rfl) ?_
       refine l_e rfl (fun K hK => ?_)
       refine e_call (by kernel_rfl) (same_ok [] [] VsOk.nil VsOk.nil 0 0 _ _ (by first | omega | (simp only [lls] <;> omega)) (by first | omega | (simp only [lls] <;> omega)) _ _ (by first | omega | (simp only [lls] <;> omega)) _ SlG.nil SlG.nil) rfl (after_R hS66 (fun v68 w68 hv68 hS68 => ?_))
       clear hS66
       obtain rfl := hv68
       refine hK _ _ ?_; clear hK K
       refine l_q rfl rfl (q_assignB rfl) ?_
       refine l_nil ?_
       refine hK67 _ _ ?_
       refine wp_seq_k (fun K69 hK69 => ?_)
       refine r_any (by kernel_rfl) hS68 (fun w70 hS70 => ?_)
       clear hS68
       refine o_eff (i := 0) (by kernel_rfl) rfl (goes0 rfl) (fun K hK => ?_)
       refine e_call (by kernel_rfl) (alive18_ok _) rfl (after_R hS70 (fun v71 w71 hv71 hS71 => ?_))
       clear hS70
       obtain rfl := hv71
       refine hK _ _ trivial ?_; clear hK K
       refine o_pure (i := 1) (fun _ _ => trivial) rfl rfl (by kernel_rfl) (goes0 rfl) (QOk.then QOk.body) (fun w => q_moveB rfl) ?_
       refine o_pure (i := 2) (fun _ _ => trivial) rfl rfl (by kernel_rfl) (goes1 rfl rfl rfl) (QOk.then QOk.body) (fun w => q_moveI rfl) ?_
       refine o_pure (i := 3) (fun _ _ => trivial) rfl rfl (by kernel_rfl) (goes1 rfl rfl rfl) (QOk.then QOk.body) (fun w => q_moveI rfl) ?_
       refine o_pure (i := 4) (fun _ _ => trivial) rfl rfl (by kernel_rfl) (goes1 rfl rfl rfl) (QOk.then QOk.body) (fun w => q_eql rfl rfl) ?_
       refine o_pure (i := 5) (fun _ _ => trivial) rfl rfl (by kernel_rfl) (goes0 rfl) (QOk.then QOk.body) (fun w => q_pickT rfl rfl rfl) ?_
       refine o_pure (i := 6) (fun _ _ => trivial) rfl rfl (by kernel_rfl) (goes0 rfl) (QOk.then QOk.body) (fun w => q_moveB rfl) ?_
       refine o_pure (i := 7) (fun _ _ => trivial) rfl rfl (by kernel_rfl) (goes1 rfl rfl (decide_eq_true (by have h := hz30.yes hPt.1 hPt.2; omega))) (QOk.then QOk.body) (fun w => q_moveB rfl) ?_
       refine o_pure (i := 8) (fun _ _ => trivial) rfl rfl (by kernel_rfl) (goes0 rfl) (QOk.then QOk.body) (fun w => q_pickT rfl (decide_eq_true (by have h := hz30.yes hPt.1 hPt.2; omega)) rfl) ?_
       refine o_pure (i := 9) (fun _ _ => trivial) rfl rfl (by kernel_rfl) (goes0 rfl) (QOk.then QOk.body) (fun w => q_moveB rfl) ?_
       refine o_pure (i := 10) (fun _ _ => trivial) rfl rfl (by kernel_rfl) (goes1 rfl rfl (decide_eq_true (by have h := hz30.yes hPt.1 hPt.2; omega))) (QOk.then QOk.body) (fun w => q_moveB rfl) ?_
       refine o_pure (i := 11) (fun _ _ => trivial) rfl rfl (by kernel_rfl) (goes0 rfl) (QOk.then QOk.body) (fun w => q_pickT rfl (decide_eq_true (by have h := hz30.yes hPt.1 hPt.2; omega)) rfl) ?_
       refine o_pure (i := 12) (fun _ _ => trivial) rfl rfl (by kernel_rfl) (goes0 rfl) (QOk.then QOk.body) (fun w => q_moveB rfl) ?_
       refine o_pure (i := 13) (fun _ _ => trivial) rfl rfl (by kernel_rfl) (goes1 rfl rfl (decide_eq_true rfl)) (QOk.then QOk.body) (fun w => q_moveB rfl) ?_
       refine o_pure (i := 14) (fun _ _ => trivial) rfl rfl (by kernel_rfl) (goes0 rfl) (QOk.then QOk.body) (fun w => q_pickT rfl (decide_eq_true rfl) rfl) ?_
       refine o_pure (i := 15) (fun _ _ => trivial) rfl rfl (by kernel_rfl) (goes0 rfl) (QOk.then QOk.body) (fun w => q_moveB rfl) ?_
       refine o_held (i := 16) [17, 19, 20, 21, 22] (fun _ _ => trivial) rfl rfl (by kernel_rfl) (goes1 rfl rfl (decide_eq_true (by have h := RwA.fun' hpa56.2 hqa59.2; omega))) (QOk.then QOk.body) (q_loadA (m := 5) rfl (by kernel_rfl) (by kernel_rfl) (hS71.blk (i := 3) rfl) rfl rfl) ?_
       refine o_held (i := 18) [19, 20, 21, 22] (fun j w => ⟨(fun _ _ => trivial) j w, fun _ h => h⟩) rfl rfl (by kernel_rfl) (goes1 rfl rfl (decide_eq_true (by have h := RwA.fun' hpa56.2 hqa59.2; omega))) (QOk.then QOk.body) (q_loadA (m := 5) rfl (by kernel_rfl) (by kernel_rfl) (hS71.blk (i := 3) rfl) rfl rfl) ?_
       refine o_eff (i := 17) (by kernel_rfl) rfl (goes1 rfl rfl (decide_eq_true (by have h := RwA.fun' hpa56.2 hqa59.2; omega))) (fun K hK => ?_)
       refine e_call (by kernel_rfl) (parts_ok t htn htc htb t.cs.length t.bd.length (by first | omega | (simp only [lls] <;> omega)) (by first | omega | (simp only [lls] <;> omega)) (by first | omega | (simp only [lls] <;> omega)) (by first | omega | (simp only [lls] <;> omega)) _ _ _ _ _ (hCG.mono hS71.base) (hBG.mono hS71.base)) rfl (after_R hS71 (fun v76 w76 hv76 hS76 => ?_))
       clear hS71
       obtain rfl := hv76
       refine hK _ _ ⟨⟨trivial, fun h => absurd h (by decide)⟩, fun _ _ => by first | exact q_loadA (m := 5) rfl (by kernel_rfl) (by kernel_rfl) (hS76.blk (i := 3) rfl) rfl rfl⟩ ?_; clear hK K
       refine o_eff (i := 19) (by kernel_rfl) rfl (goes1 rfl rfl (decide_eq_true (by have h := RwA.fun' hpa56.2 hqa59.2; omega))) (fun K hK => ?_)
       refine e_call (by kernel_rfl) (rparts_ok t htn htc htb t.cs.length t.bd.length (by first | omega | (simp only [lls] <;> omega)) (by first | omega | (simp only [lls] <;> omega)) (by first | omega | (simp only [lls] <;> omega)) (by first | omega | (simp only [lls] <;> omega)) _ _ _ _ _ (hCG.mono hS76.base) (hBG.mono hS76.base)) rfl (after_R hS76 (fun v77 w77 hv77 hS77 => ?_))
       clear hS76
       obtain rfl := hv77
       refine hK _ _ ⟨⟨trivial, fun h => absurd h (by decide)⟩, fun h => absurd h (by decide)⟩ ?_; clear hK K
       refine o_pure (i := 20) (fun j w => ⟨(fun j w => ⟨(fun _ _ => trivial) j w, fun _ h => h⟩) j w, fun _ h => h⟩) rfl rfl (by kernel_rfl) (goes1 rfl rfl (decide_eq_true (by have h := RwA.fun' hpa56.2 hqa59.2; omega))) (QOk.then QOk.body) (fun w => q_eql rfl rfl) ?_
       refine o_pure (i := 21) (fun j w => ⟨(fun j w => ⟨(fun _ _ => trivial) j w, fun _ h => h⟩) j w, fun _ h => h⟩) rfl rfl (by kernel_rfl) (goes0 rfl) (QOk.then QOk.body) (fun w => q_pickT rfl (decide_eq_true (by have h := RwA.fun' hpa56.2 hqa59.2; omega)) rfl) ?_
       refine o_pure (i := 22) (fun j w => ⟨(fun j w => ⟨(fun _ _ => trivial) j w, fun _ h => h⟩) j w, fun _ h => h⟩) rfl rfl (by kernel_rfl) (goes0 rfl) (QOk.then QOk.body) (fun w => q_assignB rfl) ?_
       refine o_done (by kernel_rfl) ?_
       refine hK69 _ _ ?_
       refine wp_ret ?_
       refine c_ret1 rfl rfl ?_
       exact ⟨_, rfl, congrArg Value.bool (decide_eq_true rfl), hS77.drop⟩
     ·
      refine l_e rfl (fun K hK => ?_)
      refine e_call (by kernel_rfl) (cpart_no t htn htc htb t.cs.length t.bd.length (by first | omega | (simp only [lls] <;> omega)) (by first | omega | (simp only [lls] <;> omega)) (by first | omega | (simp only [lls] <;> omega)) (by first | omega | (simp only [lls] <;> omega)) hRt L hPt hL L.length (by first | omega | (simp only [lls] <;> omega)) _ _ (by first | omega | (simp only [lls] <;> omega)) (hG.mono hS24.base) _ _ _ _ (hCG.mono hS24.base) (hBG.mono hS24.base)) rfl (after_N hS24 (fun v78 G78 w78 hv78 hS78 => ?_))
      clear hS24
      obtain ⟨p78, b78, hpa78, rfl, rfl⟩ := hv78
      have hS79 : St _ _ [.blk b78 (.cells #[.int .i64 (41 : Int), .int .i64 p78, _] 87), _] _ := hS78; clear hS78
      refine hK _ _ ?_; clear hK K
      refine l_q rfl rfl (q_move rfl) ?_
      refine l_q rfl rfl (q_extract rfl rfl) ?_
      refine l_q rfl rfl (q_extract rfl rfl) ?_
      refine l_q rfl rfl (q_assignI rfl) ?_
      refine l_q rfl rfl (q_assign rfl) ?_
      refine l_nil ?_
      refine hK26 _ _ ?_
      refine wp_seq_k (fun K80 hK80 => ?_)
      refine wp_region_lit ?_
      refine l_q rfl rfl (q_loadA (m := 5) rfl (by kernel_rfl) (by kernel_rfl) (hS79.blk (i := 1) rfl) rfl rfl) ?_
      refine l_q rfl rfl (q_moveS rfl) ?_
      refine l_e rfl (fun K hK => ?_)
      refine e_call (by kernel_rfl) (rpart_ok t htn htc htb t.cs.length t.bd.length (by first | omega | (simp only [lls] <;> omega)) (by first | omega | (simp only [lls] <;> omega)) (by first | omega | (simp only [lls] <;> omega)) (by first | omega | (simp only [lls] <;> omega)) hRt L hL L.length (by first | omega | (simp only [lls] <;> omega)) _ _ (by first | omega | (simp only [lls] <;> omega)) (hG.mono hS79.base) _ _ _ _ (hCG.mono hS79.base) (hBG.mono hS79.base)) rfl (after_R hS79 (fun v81 w81 hv81 hS81 => ?_))
      clear hS79
      obtain ⟨zn81, zc81, za81, hz81, rfl⟩ := hv81
      refine hK _ _ ?_; clear hK K
      refine l_q rfl rfl (q_move rfl) ?_
      refine l_q rfl rfl (q_extract rfl rfl) ?_
      refine l_q rfl rfl (q_extract rfl rfl) ?_
      refine l_e rfl (fun K hK => ?_)
      refine e_alloc (zv := .agg #[.int .i64 0, .int .i64 0]) hS81 (by kernel_rfl) (fun b82 w82 (hS82 : St _ _ [.blk b82 (.cells #[.int .i64 (0 : Int), .int .i64 (0 : Int)] 51), _, _] _) => ?_)
      clear hS81
      refine hK _ _ ?_; clear hK K
      refine l_q rfl rfl (q_assignI rfl) ?_
      refine l_e rfl (fun K hK => ?_)
      refine e_storeA hS82 rfl rfl (by kernel_rfl) (by repeat' (first | exact trivial | refine ⟨by first | rfl | assumption | exact one_if (by assumption), ?_⟩)) (i := 0) rfl rfl (fun w83 (hS83 : St _ _ [.blk b82 (.cells #[.int .i64 zc81, .int .i64 za81] 51), _, _] _) => ?_)
      clear hS82
      refine hK _ _ ?_; clear hK K
      refine l_nil ?_
      refine hK80 _ _ ?_
      refine wp_seq_k (fun K84 hK84 => ?_)
      refine wp_region_lit ?_
      refine l_q rfl rfl (q_loadA (m := 5) rfl (by kernel_rfl) (by kernel_rfl) (hS83.blk (i := 2) rfl) rfl rfl) ?_
      refine l_q rfl rfl (q_moveS rfl) ?_
      by_cases hRa : RwP t M
      ·
       refine l_e rfl (fun K hK => ?_)
       refine e_call (by kernel_rfl) (crow_yes t htn htc htb t.cs.length t.bd.length (by first | omega | (simp only [lls] <;> omega)) (by first | omega | (simp only [lls] <;> omega)) (by first | omega | (simp only [lls] <;> omega)) (by first | omega | (simp only [lls] <;> omega)) hRt M hRa hM M.length (by first | omega | (simp only [lls] <;> omega)) (by first | omega | (simp only [lls] <;> omega)) (by first | omega | assumption) _ _ (hGm.mono hS83.base) _ _ _ _ (hCG.mono hS83.base) (hBG.mono hS83.base)) rfl (after_N hS83 (fun v85 G85 w85 hv85 hS85 => ?_))
       clear hS83
       obtain ⟨ad85, cp85, rfl, rfl⟩ := hv85
       have hS86 : St _ _ [.ow 32 3 ad85 t.key.toNat cp85 (List.flatMap vl (M.take t.key.toNat)), _, _, _] _ := hS85; clear hS85
       refine hK _ _ ?_; clear hK K
       refine l_q rfl rfl (q_move rfl) ?_
       refine l_q rfl rfl (q_extract rfl rfl) ?_
       refine l_q rfl rfl (q_extract rfl rfl) ?_
       refine l_q rfl rfl (q_assignS rfl) ?_
       refine l_q rfl rfl (q_assign rfl) ?_
       refine l_nil ?_
       refine hK84 _ _ ?_
       refine wp_seq_k (fun K87 hK87 => ?_)
       refine wp_region_lit ?_
       refine l_q rfl rfl (q_loadA (m := 5) rfl (by kernel_rfl) (by kernel_rfl) (hS86.blk (i := 3) rfl) rfl rfl) ?_
       refine l_q rfl rfl (q_moveS rfl) ?_
       refine l_e rfl (fun K hK => ?_)
       refine e_call (by kernel_rfl) (rrow_yes t htn htc htb t.cs.length t.bd.length (by first | omega | (simp only [lls] <;> omega)) (by first | omega | (simp only [lls] <;> omega)) (by first | omega | (simp only [lls] <;> omega)) (by first | omega | (simp only [lls] <;> omega)) hRt M hRa hM M.length (by first | omega | (simp only [lls] <;> omega)) (by first | omega | (simp only [lls] <;> omega)) (by first | omega | assumption) _ _ (hGm.mono hS86.base) _ _ _ _ (hCG.mono hS86.base) (hBG.mono hS86.base)) rfl (after_N hS86 (fun v88 G88 w88 hv88 hS88 => ?_))
       clear hS86
       obtain ⟨ad88, cp88, rfl, rfl⟩ := hv88
       have hS89 : St _ _ [.ow 32 3 ad88 t.key.toNat cp88 (List.flatMap vl (M.take t.key.toNat)), _, _, _, _] _ := hS88; clear hS88
       refine hK _ _ ?_; clear hK K
       refine l_q rfl rfl (q_move rfl) ?_
       refine l_q rfl rfl (q_extract rfl rfl) ?_
       refine l_q rfl rfl (q_extract rfl rfl) ?_
       refine l_e rfl (fun K hK => ?_)
       refine e_alloc (zv := .agg #[.int .i64 0, .int .i64 0]) hS89 (by kernel_rfl) (fun b90 w90 (hS90 : St _ _ [.blk b90 (.cells #[.int .i64 (0 : Int), .int .i64 (0 : Int)] 51), _, _, _, _, _] _) => ?_)
       clear hS89
       refine hK _ _ ?_; clear hK K
       refine l_q rfl rfl (q_assignS rfl) ?_
       refine l_e rfl (fun K hK => ?_)
       refine e_storeA hS90 rfl rfl (by kernel_rfl) (by repeat' (first | exact trivial | refine ⟨by first | rfl | assumption | exact one_if (by assumption), ?_⟩)) (i := 0) rfl rfl (fun w91 (hS91 : St _ _ [.blk b90 (.cells #[.int .i64 (0 : Int), .int .i64 (-1 : Int)] 51), _, _, _, _, _] _) => ?_)
       clear hS90
       refine hK _ _ ?_; clear hK K
       refine l_nil ?_
       refine hK87 _ _ ?_
       refine wp_seq_k (fun K92 hK92 => ?_)
       refine wp_region_lit ?_
       refine l_q rfl rfl (q_move rfl) ?_
       refine l_q rfl rfl (q_loadA (m := 2) rfl (by kernel_rfl) (by kernel_rfl) (hS91.blk (i := 3) rfl) rfl rfl) ?_
       refine l_e rfl (fun K hK => ?_)
       refine e_call (by kernel_rfl) (told_flt 41 p78 b78 (by decide) zc81 za81 _ ((hl.keep id hS91)) (hS91.blk (i := 4) rfl)) rfl (after_R hS91 (fun v93 w93 hv93 hS93 => ?_))
       clear hS91
       obtain rfl := hv93
       refine hK _ _ ?_; clear hK K
       refine l_q rfl rfl (q_assignB rfl) ?_
       refine l_nil ?_
       refine hK92 _ _ ?_
       refine wp_seq_k (fun K94 hK94 => ?_)
       refine wp_region_lit ?_
       refine l_q rfl rfl (q_move rfl) ?_
       refine l_q rfl rfl (q_loadA (m := 2) rfl (by kernel_rfl) (by kernel_rfl) (hS93.blk (i := 0) rfl) rfl rfl) ?_
       refine l_e rfl (fun K hK => ?_)
       refine e_call (by kernel_rfl) (told_nil (0 : Int) (-1 : Int) _ ((hl.keep id hS93))) rfl (after_R hS93 (fun v95 w95 hv95 hS95 => ?_))
       clear hS93
       obtain rfl := hv95
       refine hK _ _ ?_; clear hK K
       refine l_q rfl rfl (q_assignB rfl) ?_
       refine l_nil ?_
       refine hK94 _ _ ?_
       refine wp_seq_k (fun K96 hK96 => ?_)
       have hkm := row_key hRt hRa
       have htlm : (M.take t.key.toNat).length = t.key.toNat := by have := hkm.2.2.1; omega
       refine wp_region_lit ?_
       refine l_q rfl rfl (q_moveS rfl) ?_
       refine l_q rfl rfl (q_moveS rfl) ?_
       refine l_e rfl (fun K hK => ?_)
       refine e_call (by kernel_rfl) (same_ok (M.take t.key.toNat) (M.take t.key.toNat) (VsOk.take hM) (VsOk.take hM) t.key.toNat t.key.toNat _ _ (by first | omega | (simp only [lls] <;> omega)) (by first | omega | (simp only [lls] <;> omega)) _ _ (by first | omega | (simp only [lls] <;> omega)) _ (hS95.owG (i := 2) rfl) (hS95.owG (i := 1) rfl)) rfl (after_R hS95 (fun v97 w97 hv97 hS97 => ?_))
       clear hS95
       obtain rfl := hv97
       refine hK _ _ ?_; clear hK K
       refine l_q rfl rfl (q_assignB rfl) ?_
       refine l_nil ?_
       refine hK96 _ _ ?_
       refine wp_seq_k (fun K98 hK98 => ?_)
       refine r_any (by kernel_rfl) hS97 (fun w99 hS99 => ?_)
       clear hS97
       refine o_eff (i := 0) (by kernel_rfl) rfl (goes0 rfl) (fun K hK => ?_)
       refine e_call (by kernel_rfl) (alive18_ok _) rfl (after_R hS99 (fun v100 w100 hv100 hS100 => ?_))
       clear hS99
       obtain rfl := hv100
       refine hK _ _ trivial ?_; clear hK K
       refine o_pure (i := 1) (fun _ _ => trivial) rfl rfl (by kernel_rfl) (goes0 rfl) (QOk.then QOk.body) (fun w => q_moveB rfl) ?_
       refine o_pure (i := 2) (fun _ _ => trivial) rfl rfl (by kernel_rfl) (goes1 rfl rfl rfl) (QOk.then QOk.body) (fun w => q_moveI rfl) ?_
       refine o_pure (i := 3) (fun _ _ => trivial) rfl rfl (by kernel_rfl) (goes1 rfl rfl rfl) (QOk.then QOk.body) (fun w => q_moveI rfl) ?_
       refine o_pure (i := 4) (fun _ _ => trivial) rfl rfl (by kernel_rfl) (goes1 rfl rfl rfl) (QOk.then QOk.body) (fun w => q_eql rfl rfl) ?_
       refine o_pure (i := 5) (fun _ _ => trivial) rfl rfl (by kernel_rfl) (goes0 rfl) (QOk.then QOk.body) (fun w => q_pickT rfl rfl rfl) ?_
       refine o_pure (i := 6) (fun _ _ => trivial) rfl rfl (by kernel_rfl) (goes0 rfl) (QOk.then QOk.body) (fun w => q_moveB rfl) ?_
       refine o_pure (i := 7) (fun _ _ => trivial) rfl rfl (by kernel_rfl) (goes1 rfl rfl (decide_eq_true (by have h := PtA.fun' hpa78 hz81; omega))) (QOk.then QOk.body) (fun w => q_moveB rfl) ?_
       refine o_pure (i := 8) (fun _ _ => trivial) rfl rfl (by kernel_rfl) (goes0 rfl) (QOk.then QOk.body) (fun w => q_pickT rfl (decide_eq_true (by have h := PtA.fun' hpa78 hz81; omega)) rfl) ?_
       refine o_pure (i := 9) (fun _ _ => trivial) rfl rfl (by kernel_rfl) (goes0 rfl) (QOk.then QOk.body) (fun w => q_moveB rfl) ?_
       refine o_pure (i := 10) (fun _ _ => trivial) rfl rfl (by kernel_rfl) (goes1 rfl rfl (decide_eq_true (by have h := PtA.fun' hpa78 hz81; omega))) (QOk.then QOk.body) (fun w => q_moveB rfl) ?_
       refine o_pure (i := 11) (fun _ _ => trivial) rfl rfl (by kernel_rfl) (goes0 rfl) (QOk.then QOk.body) (fun w => q_pickT rfl (decide_eq_true (by have h := PtA.fun' hpa78 hz81; omega)) rfl) ?_
       refine o_pure (i := 12) (fun _ _ => trivial) rfl rfl (by kernel_rfl) (goes0 rfl) (QOk.then QOk.body) (fun w => q_moveB rfl) ?_
       refine o_pure (i := 13) (fun _ _ => trivial) rfl rfl (by kernel_rfl) (goes1 rfl rfl (decide_eq_true rfl)) (QOk.then QOk.body) (fun w => q_moveB rfl) ?_
       refine o_pure (i := 14) (fun _ _ => trivial) rfl rfl (by kernel_rfl) (goes0 rfl) (QOk.then QOk.body) (fun w => q_pickT rfl (decide_eq_true rfl) rfl) ?_
       refine o_pure (i := 15) (fun _ _ => trivial) rfl rfl (by kernel_rfl) (goes0 rfl) (QOk.then QOk.body) (fun w => q_moveB rfl) ?_
       refine o_held (i := 16) [17, 19, 20, 21, 22] (fun _ _ => trivial) rfl rfl (by kernel_rfl) (goes1 rfl rfl (decide_eq_true (by omega))) (QOk.then QOk.body) (q_loadA (m := 5) rfl (by kernel_rfl) (by kernel_rfl) (hS100.blk (i := 5) rfl) rfl rfl) ?_
       refine o_held (i := 18) [19, 20, 21, 22] (fun j w => ⟨(fun _ _ => trivial) j w, fun _ h => h⟩) rfl rfl (by kernel_rfl) (goes1 rfl rfl (decide_eq_true (by omega))) (QOk.then QOk.body) (q_loadA (m := 5) rfl (by kernel_rfl) (by kernel_rfl) (hS100.blk (i := 5) rfl) rfl rfl) ?_
       refine o_eff (i := 17) (by kernel_rfl) rfl (goes1 rfl rfl (decide_eq_true (by omega))) (fun K hK => ?_)
       refine e_call (by kernel_rfl) (parts_ok t htn htc htb t.cs.length t.bd.length (by first | omega | (simp only [lls] <;> omega)) (by first | omega | (simp only [lls] <;> omega)) (by first | omega | (simp only [lls] <;> omega)) (by first | omega | (simp only [lls] <;> omega)) _ _ _ _ _ (hCG.mono hS100.base) (hBG.mono hS100.base)) rfl (after_R hS100 (fun v105 w105 hv105 hS105 => ?_))
       clear hS100
       obtain rfl := hv105
       refine hK _ _ ⟨⟨trivial, fun h => absurd h (by decide)⟩, fun _ _ => by first | exact q_loadA (m := 5) rfl (by kernel_rfl) (by kernel_rfl) (hS105.blk (i := 5) rfl) rfl rfl⟩ ?_; clear hK K
       refine o_eff (i := 19) (by kernel_rfl) rfl (goes1 rfl rfl (decide_eq_true (by omega))) (fun K hK => ?_)
       refine e_call (by kernel_rfl) (rparts_ok t htn htc htb t.cs.length t.bd.length (by first | omega | (simp only [lls] <;> omega)) (by first | omega | (simp only [lls] <;> omega)) (by first | omega | (simp only [lls] <;> omega)) (by first | omega | (simp only [lls] <;> omega)) _ _ _ _ _ (hCG.mono hS105.base) (hBG.mono hS105.base)) rfl (after_R hS105 (fun v106 w106 hv106 hS106 => ?_))
       clear hS105
       obtain rfl := hv106
       refine hK _ _ ⟨⟨trivial, fun h => absurd h (by decide)⟩, fun h => absurd h (by decide)⟩ ?_; clear hK K
       refine o_pure (i := 20) (fun j w => ⟨(fun j w => ⟨(fun _ _ => trivial) j w, fun _ h => h⟩) j w, fun _ h => h⟩) rfl rfl (by kernel_rfl) (goes1 rfl rfl (decide_eq_true (by omega))) (QOk.then QOk.body) (fun w => q_eql rfl rfl) ?_
       refine o_pure (i := 21) (fun j w => ⟨(fun j w => ⟨(fun _ _ => trivial) j w, fun _ h => h⟩) j w, fun _ h => h⟩) rfl rfl (by kernel_rfl) (goes0 rfl) (QOk.then QOk.body) (fun w => q_pickT rfl (decide_eq_true (by omega)) rfl) ?_
       refine o_pure (i := 22) (fun j w => ⟨(fun j w => ⟨(fun _ _ => trivial) j w, fun _ h => h⟩) j w, fun _ h => h⟩) rfl rfl (by kernel_rfl) (goes0 rfl) (QOk.then QOk.body) (fun w => q_assignB rfl) ?_
       refine o_done (by kernel_rfl) ?_
       refine hK98 _ _ ?_
       refine wp_ret ?_
       refine c_ret1 rfl rfl ?_
       exact ⟨_, rfl, congrArg Value.bool (decide_eq_true rfl), hS106.drop⟩
      ·
       refine l_e rfl (fun K hK => ?_)
       refine e_call (by kernel_rfl) (crow_no t htn htc htb t.cs.length t.bd.length (by first | omega | (simp only [lls] <;> omega)) (by first | omega | (simp only [lls] <;> omega)) (by first | omega | (simp only [lls] <;> omega)) (by first | omega | (simp only [lls] <;> omega)) hRt M hRa hM M.length (by first | omega | (simp only [lls] <;> omega)) (by first | omega | (simp only [lls] <;> omega)) (by first | omega | assumption) _ _ (hGm.mono hS83.base) _ _ _ _ (hCG.mono hS83.base) (hBG.mono hS83.base)) rfl (after_N hS83 (fun v107 G107 w107 hv107 hS107 => ?_))
       clear hS83
       obtain ⟨c107, p107, b107, hpa107, rfl, rfl⟩ := hv107
       have hS108 : St _ _ [.blk b107 (.cells #[.int .i64 c107, .int .i64 p107, _] 87), _, _, _] _ := hS107; clear hS107
       refine hK _ _ ?_; clear hK K
       refine l_q rfl rfl (q_move rfl) ?_
       refine l_q rfl rfl (q_extract rfl rfl) ?_
       refine l_q rfl rfl (q_extract rfl rfl) ?_
       refine l_q rfl rfl (q_assignS rfl) ?_
       refine l_q rfl rfl (q_assign rfl) ?_
       refine l_nil ?_
       refine hK84 _ _ ?_
       refine wp_seq_k (fun K109 hK109 => ?_)
       refine wp_region_lit ?_
       refine l_q rfl rfl (q_loadA (m := 5) rfl (by kernel_rfl) (by kernel_rfl) (hS108.blk (i := 3) rfl) rfl rfl) ?_
       refine l_q rfl rfl (q_moveS rfl) ?_
       refine l_e rfl (fun K hK => ?_)
       refine e_call (by kernel_rfl) (rrow_no t htn htc htb t.cs.length t.bd.length (by first | omega | (simp only [lls] <;> omega)) (by first | omega | (simp only [lls] <;> omega)) (by first | omega | (simp only [lls] <;> omega)) (by first | omega | (simp only [lls] <;> omega)) hRt M hRa hM M.length (by first | omega | (simp only [lls] <;> omega)) (by first | omega | (simp only [lls] <;> omega)) (by first | omega | assumption) _ _ (hGm.mono hS108.base) _ _ _ _ (hCG.mono hS108.base) (hBG.mono hS108.base)) rfl (after_N hS108 (fun v110 G110 w110 hv110 hS110 => ?_))
       clear hS108
       obtain ⟨qc110, qa110, hqa110, rfl, rfl⟩ := hv110
       have hS111 : St _ _ [_, _, _, _] _ := hS110; clear hS110
       refine hK _ _ ?_; clear hK K
       refine l_q rfl rfl (q_move rfl) ?_
       refine l_q rfl rfl (q_extract rfl rfl) ?_
       refine l_q rfl rfl (q_extract rfl rfl) ?_
       refine l_e rfl (fun K hK => ?_)
       refine e_alloc (zv := .agg #[.int .i64 0, .int .i64 0]) hS111 (by kernel_rfl) (fun b112 w112 (hS112 : St _ _ [.blk b112 (.cells #[.int .i64 (0 : Int), .int .i64 (0 : Int)] 51), _, _, _, _] _) => ?_)
       clear hS111
       refine hK _ _ ?_; clear hK K
       refine l_q rfl rfl (q_assignS rfl) ?_
       refine l_e rfl (fun K hK => ?_)
       refine e_storeA hS112 rfl rfl (by kernel_rfl) (by repeat' (first | exact trivial | refine ⟨by first | rfl | assumption | exact one_if (by assumption), ?_⟩)) (i := 0) rfl rfl (fun w113 (hS113 : St _ _ [.blk b112 (.cells #[.int .i64 qc110, .int .i64 qa110] 51), _, _, _, _] _) => ?_)
       clear hS112
       refine hK _ _ ?_; clear hK K
       refine l_nil ?_
       refine hK109 _ _ ?_
       refine wp_seq_k (fun K114 hK114 => ?_)
       refine wp_region_lit ?_
       refine l_q rfl rfl (q_move rfl) ?_
       refine l_q rfl rfl (q_loadA (m := 2) rfl (by kernel_rfl) (by kernel_rfl) (hS113.blk (i := 2) rfl) rfl rfl) ?_
       refine l_e rfl (fun K hK => ?_)
       refine e_call (by kernel_rfl) (told_flt 41 p78 b78 (by decide) zc81 za81 _ ((hl.keep id hS113)) (hS113.blk (i := 3) rfl)) rfl (after_R hS113 (fun v115 w115 hv115 hS115 => ?_))
       clear hS113
       obtain rfl := hv115
       refine hK _ _ ?_; clear hK K
       refine l_q rfl rfl (q_assignB rfl) ?_
       refine l_nil ?_
       refine hK114 _ _ ?_
       refine wp_seq_k (fun K116 hK116 => ?_)
       refine wp_region_lit ?_
       refine l_q rfl rfl (q_move rfl) ?_
       refine l_q rfl rfl (q_loadA (m := 2) rfl (by kernel_rfl) (by kernel_rfl) (hS115.blk (i := 0) rfl) rfl rfl) ?_
       refine l_e rfl (fun K hK => ?_)
       refine e_call (by kernel_rfl) (told_flt c107 p107 b107 hpa107.1 qc110 qa110 _ ((hl.keep id hS115)) (hS115.blk (i := 1) rfl)) rfl (after_R hS115 (fun v117 w117 hv117 hS117 => ?_))
       clear hS115
       obtain rfl := hv117
       refine hK _ _ ?_; clear hK K
       refine l_q rfl rfl (q_assignB rfl) ?_
       refine l_nil ?_
       refine hK116 _ _ ?_
       refine wp_seq_k (fun K118 hK118 => ?_)
       refine wp_region_lit ?_
       refine l_q rfl rfl (q_moveS rfl) ?_
       refine l_q rfl rfl (q_moveS rfl) ?_
       refine l_e rfl (fun K hK => ?_)
       refine e_call (by kernel_rfl) (same_ok [] [] VsOk.nil VsOk.nil 0 0 _ _ (by first | omega | (simp only [lls] <;> omega)) (by first | omega | (simp only [lls] <;> omega)) _ _ (by first | omega | (simp only [lls] <;> omega)) _ SlG.nil SlG.nil) rfl (after_R hS117 (fun v119 w119 hv119 hS119 => ?_))
       clear hS117
       obtain rfl := hv119
       refine hK _ _ ?_; clear hK K
       refine l_q rfl rfl (q_assignB rfl) ?_
       refine l_nil ?_
       refine hK118 _ _ ?_
       refine wp_seq_k (fun K120 hK120 => ?_)
       refine r_any (by kernel_rfl) hS119 (fun w121 hS121 => ?_)
       clear hS119
       refine o_eff (i := 0) (by kernel_rfl) rfl (goes0 rfl) (fun K hK => ?_)
       refine e_call (by kernel_rfl) (alive18_ok _) rfl (after_R hS121 (fun v122 w122 hv122 hS122 => ?_))
       clear hS121
       obtain rfl := hv122
       refine hK _ _ trivial ?_; clear hK K
       refine o_pure (i := 1) (fun _ _ => trivial) rfl rfl (by kernel_rfl) (goes0 rfl) (QOk.then QOk.body) (fun w => q_moveB rfl) ?_
       refine o_pure (i := 2) (fun _ _ => trivial) rfl rfl (by kernel_rfl) (goes1 rfl rfl rfl) (QOk.then QOk.body) (fun w => q_moveI rfl) ?_
       refine o_pure (i := 3) (fun _ _ => trivial) rfl rfl (by kernel_rfl) (goes1 rfl rfl rfl) (QOk.then QOk.body) (fun w => q_moveI rfl) ?_
       refine o_pure (i := 4) (fun _ _ => trivial) rfl rfl (by kernel_rfl) (goes1 rfl rfl rfl) (QOk.then QOk.body) (fun w => q_eql rfl rfl) ?_
       refine o_pure (i := 5) (fun _ _ => trivial) rfl rfl (by kernel_rfl) (goes0 rfl) (QOk.then QOk.body) (fun w => q_pickT rfl rfl rfl) ?_
       refine o_pure (i := 6) (fun _ _ => trivial) rfl rfl (by kernel_rfl) (goes0 rfl) (QOk.then QOk.body) (fun w => q_moveB rfl) ?_
       refine o_pure (i := 7) (fun _ _ => trivial) rfl rfl (by kernel_rfl) (goes1 rfl rfl (decide_eq_true (by have h := PtA.fun' hpa78 hz81; omega))) (QOk.then QOk.body) (fun w => q_moveB rfl) ?_
       refine o_pure (i := 8) (fun _ _ => trivial) rfl rfl (by kernel_rfl) (goes0 rfl) (QOk.then QOk.body) (fun w => q_pickT rfl (decide_eq_true (by have h := PtA.fun' hpa78 hz81; omega)) rfl) ?_
       refine o_pure (i := 9) (fun _ _ => trivial) rfl rfl (by kernel_rfl) (goes0 rfl) (QOk.then QOk.body) (fun w => q_moveB rfl) ?_
       refine o_pure (i := 10) (fun _ _ => trivial) rfl rfl (by kernel_rfl) (goes1 rfl rfl (decide_eq_true (by have h := PtA.fun' hpa78 hz81; omega))) (QOk.then QOk.body) (fun w => q_moveB rfl) ?_
       refine o_pure (i := 11) (fun _ _ => trivial) rfl rfl (by kernel_rfl) (goes0 rfl) (QOk.then QOk.body) (fun w => q_pickT rfl (decide_eq_true (by have h := PtA.fun' hpa78 hz81; omega)) rfl) ?_
       refine o_pure (i := 12) (fun _ _ => trivial) rfl rfl (by kernel_rfl) (goes0 rfl) (QOk.then QOk.body) (fun w => q_moveB rfl) ?_
       refine o_pure (i := 13) (fun _ _ => trivial) rfl rfl (by kernel_rfl) (goes1 rfl rfl (decide_eq_true rfl)) (QOk.then QOk.body) (fun w => q_moveB rfl) ?_
       refine o_pure (i := 14) (fun _ _ => trivial) rfl rfl (by kernel_rfl) (goes0 rfl) (QOk.then QOk.body) (fun w => q_pickT rfl (decide_eq_true rfl) rfl) ?_
       refine o_pure (i := 15) (fun _ _ => trivial) rfl rfl (by kernel_rfl) (goes0 rfl) (QOk.then QOk.body) (fun w => q_moveB rfl) ?_
       refine o_held (i := 16) [17, 19, 20, 21, 22] (fun _ _ => trivial) rfl rfl (by kernel_rfl) (goes1 rfl rfl (decide_eq_true (by have h := RwA.fun' hpa107.2 hqa110.2; omega))) (QOk.then QOk.body) (q_loadA (m := 5) rfl (by kernel_rfl) (by kernel_rfl) (hS122.blk (i := 4) rfl) rfl rfl) ?_
       refine o_held (i := 18) [19, 20, 21, 22] (fun j w => ⟨(fun _ _ => trivial) j w, fun _ h => h⟩) rfl rfl (by kernel_rfl) (goes1 rfl rfl (decide_eq_true (by have h := RwA.fun' hpa107.2 hqa110.2; omega))) (QOk.then QOk.body) (q_loadA (m := 5) rfl (by kernel_rfl) (by kernel_rfl) (hS122.blk (i := 4) rfl) rfl rfl) ?_
       refine o_eff (i := 17) (by kernel_rfl) rfl (goes1 rfl rfl (decide_eq_true (by have h := RwA.fun' hpa107.2 hqa110.2; omega))) (fun K hK => ?_)
       refine e_call (by kernel_rfl) (parts_ok t htn htc htb t.cs.length t.bd.length (by first | omega | (simp only [lls] <;> omega)) (by first | omega | (simp only [lls] <;> omega)) (by first | omega | (simp only [lls] <;> omega)) (by first | omega | (simp only [lls] <;> omega)) _ _ _ _ _ (hCG.mono hS122.base) (hBG.mono hS122.base)) rfl (after_R hS122 (fun v127 w127 hv127 hS127 => ?_))
       clear hS122
       obtain rfl := hv127
       refine hK _ _ ⟨⟨trivial, fun h => absurd h (by decide)⟩, fun _ _ => by first | exact q_loadA (m := 5) rfl (by kernel_rfl) (by kernel_rfl) (hS127.blk (i := 4) rfl) rfl rfl⟩ ?_; clear hK K
       refine o_eff (i := 19) (by kernel_rfl) rfl (goes1 rfl rfl (decide_eq_true (by have h := RwA.fun' hpa107.2 hqa110.2; omega))) (fun K hK => ?_)
       refine e_call (by kernel_rfl) (rparts_ok t htn htc htb t.cs.length t.bd.length (by first | omega | (simp only [lls] <;> omega)) (by first | omega | (simp only [lls] <;> omega)) (by first | omega | (simp only [lls] <;> omega)) (by first | omega | (simp only [lls] <;> omega)) _ _ _ _ _ (hCG.mono hS127.base) (hBG.mono hS127.base)) rfl (after_R hS127 (fun v128 w128 hv128 hS128 => ?_))
       clear hS127
       obtain rfl := hv128
       refine hK _ _ ⟨⟨trivial, fun h => absurd h (by decide)⟩, fun h => absurd h (by decide)⟩ ?_; clear hK K
       refine o_pure (i := 20) (fun j w => ⟨(fun j w => ⟨(fun _ _ => trivial) j w, fun _ h => h⟩) j w, fun _ h => h⟩) rfl rfl (by kernel_rfl) (goes1 rfl rfl (decide_eq_true (by have h := RwA.fun' hpa107.2 hqa110.2; omega))) (QOk.then QOk.body) (fun w => q_eql rfl rfl) ?_
       refine o_pure (i := 21) (fun j w => ⟨(fun j w => ⟨(fun _ _ => trivial) j w, fun _ h => h⟩) j w, fun _ h => h⟩) rfl rfl (by kernel_rfl) (goes0 rfl) (QOk.then QOk.body) (fun w => q_pickT rfl (decide_eq_true (by have h := RwA.fun' hpa107.2 hqa110.2; omega)) rfl) ?_
       refine o_pure (i := 22) (fun j w => ⟨(fun j w => ⟨(fun _ _ => trivial) j w, fun _ h => h⟩) j w, fun _ h => h⟩) rfl rfl (by kernel_rfl) (goes0 rfl) (QOk.then QOk.body) (fun w => q_assignB rfl) ?_
       refine o_done (by kernel_rfl) ?_
       refine hK120 _ _ ?_
       refine wp_ret ?_
       refine c_ret1 rfl rfl ?_
       exact ⟨_, rfl, congrArg Value.bool (decide_eq_true rfl), hS128.drop⟩
    ·
     have hfw : FewP t := pB_iff.1 (by assumption)
     obtain ⟨hfw1, hfw2, hfw3, _⟩ := hfw
     have hsL := (pB_iff.1 (show pB (ShP L) = true by assumption)).1
     have hsM := (pB_iff.1 (show pB (ShP M) = true by assumption)).1
     refine l_on rfl rfl hg19b ?_
     refine l_e rfl (fun K hK => ?_)
     refine e_call (by kernel_rfl) (cright_no t htn htc htb t.cs.length t.bd.length (by first | omega | (simp only [lls] <;> omega)) (by first | omega | (simp only [lls] <;> omega)) (by first | omega | (simp only [lls] <;> omega)) (by first | omega | (simp only [lls] <;> omega)) hRt _ _ _ _ _ (hCG.mono hS8.base) (hBG.mono hS8.base) (by first | omega | assumption)) rfl (after_N hS8 (fun v129 G129 w129 hv129 hS129 => ?_))
     clear hS8
     obtain ⟨p129, b129, hpa129, rfl, rfl⟩ := hv129
     have hS130 : St _ _ [.blk b129 (.cells #[.int .i64 (182 : Int), .int .i64 p129, _] 87), _] _ := hS129; clear hS129
     refine hK _ _ ?_; clear hK K
     refine l_on rfl rfl hg19b ?_
     refine l_q rfl rfl (q_ine0 rfl (by kernel_rfl)) ?_
     refine l_q rfl rfl (q_pickF rfl hg19b rfl) ?_
     refine l_nil ?_
     refine hK10 _ _ ?_
     refine c_condT rfl rfl ?_
     refine wp_seq_k (fun K132 hK132 => ?_)
     refine wp_region_lit ?_
     refine l_e rfl (fun K hK => ?_)
     refine e_call (by kernel_rfl) (alive18_ok _) rfl (after_R hS130 (fun v133 w133 hv133 hS133 => ?_))
     clear hS130
     obtain rfl := hv133
     refine hK _ _ ?_; clear hK K
     refine l_q rfl rfl (q_assignB rfl) ?_
     refine l_nil ?_
     refine hK132 _ _ ?_
     refine wp_ret ?_
     refine c_ret1 rfl rfl ?_
     exact ⟨_, rfl, rfl, hS133.drop⟩

end Go.Proofs.YtmemgpcgjephmaaDoor
