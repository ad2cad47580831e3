/- The document's log (ref07): Open, Append; Same; a number that is spoken of. -/
import Derived.Test.YtmbbkliekgiolaaV9
set_option linter.unusedVariables false
set_option linter.unusedSimpArgs false
namespace Go.Proofs.Ytmbbkliekgiolaa
open Go.RowKit
attribute [local irreducible] Oper.wp Sem.run Code.wp wpList wpAnyO callFunc execOp Calls
attribute [local irreducible] tri triR fIdx drE drL drB drS ctL ctS apE apN apL fr scan

set_option maxRecDepth 100000 in
theorem vOpen_ok (kd : Nat) (da : Option Addr) (dc : Nat) (p l q : List Nat) (s : Nat) (hA : Bytes (p ++ l ++ q)) (hb : (p ++ l ++ q).length ≤ 900000000) (hs : s ≤ l.length) (w : World) (hS : St w (owns [rdk kd da dc p l q s]) [rdk kd da dc p l q s] w) : Calls Try.prog 47 #[pV kd] w (Post w [rdk kd da dc p l q s] fun v G => ∃ k ad' cap' rs q' g', v = pV k ∧ G = [vk k kd ad' cap' rs, rdk kd da dc p (l.take (scan l p.length).2) q' (scan l p.length).2, .fz g'] ∧ RsOk g' rs ∧ rs.map Rc.abs = (scan l p.length).1 ∧ Bytes (p ++ l.take (scan l p.length).2 ++ q') ∧ (p ++ l.take (scan l p.length).2 ++ q').length ≤ (p ++ l ++ q).length) := by
  have hAl : (p ++ l ++ q).length = p.length + l.length + q.length := by rw [List.length_append, List.length_append]
  refine c_enter Try.func47 rfl rfl rfl ?_
  refine wp_seq_k (fun K1 hK1 => ?_)
  refine wp_region_lit ?_
  refine l_q rfl rfl (q_assignP rfl) ?_
  refine l_nil ?_
  refine hK1 _ _ ?_
  refine wp_seq_k (fun K2 hK2 => ?_)
  refine r_any (by kernel_rfl) hS (fun w3 hS3 => ?_)
  clear hS
  refine o_pure (i := 0) (fun _ _ => trivial) rfl rfl (by kernel_rfl) (goes0 rfl) (QOk.then QOk.body) (fun w => q_moveP rfl) ?_
  refine o_pure (i := 1) (fun _ _ => trivial) rfl rfl (by kernel_rfl) (goes0 rfl) (QOk.then QOk.body) (fun w => q_moveP rfl) ?_
  refine o_pure (i := 2) (fun _ _ => trivial) rfl rfl (by kernel_rfl) (goes0 rfl) (QOk.then QOk.body) (fun w => q_nilCheck rfl) ?_
  refine o_pure (i := 3) (fun _ _ => trivial) rfl rfl (by kernel_rfl) (goes0 rfl) (QOk.then QOk.body) (fun w => q_fieldAddr (ft := 3) (o := 1) rfl (by kernel_rfl)) ?_
  have hS4 := rd_open hS3; clear hS3
  refine o_held (i := 4) [9, 10, 11, 12, 13, 14] (fun _ _ => trivial) rfl rfl (by kernel_rfl) (goes0 rfl) (QOk.then QOk.body) (q_load1 rfl (by kernel_rfl) (hS4.cell (i := 0) rfl rfl)) ?_
  refine o_pure (i := 5) (fun j w => ⟨(fun _ _ => trivial) j w, fun _ h => h⟩) rfl rfl (by kernel_rfl) (goes0 rfl) (QOk.then QOk.body) (fun w => q_moveP rfl) ?_
  refine o_pure (i := 6) (fun j w => ⟨(fun _ _ => trivial) j w, fun _ h => h⟩) rfl rfl (by kernel_rfl) (goes0 rfl) (QOk.then QOk.body) (fun w => q_nilCheck rfl) ?_
  refine o_pure (i := 7) (fun j w => ⟨(fun _ _ => trivial) j w, fun _ h => h⟩) rfl rfl (by kernel_rfl) (goes0 rfl) (QOk.then QOk.body) (fun w => q_fieldAddr (ft := 3) (o := 2) rfl (by kernel_rfl)) ?_
  refine o_held (i := 8) [9, 10, 11, 12, 13, 14] (fun j w => ⟨(fun _ _ => trivial) j w, fun _ h => h⟩) rfl rfl (by kernel_rfl) (goes0 rfl) (QOk.then QOk.body) (q_load1 rfl (by kernel_rfl) (hS4.cell (i := 0) rfl rfl)) ?_
  refine o_eff (i := 9) (by kernel_rfl) rfl (goes0 rfl) (fun K hK => ?_)
  have hS6 := rd_close hS4; clear hS4
  have hRl5 : (p ++ l ++ q).length = p.length + l.length + q.length := by rw [List.length_append, List.length_append]
  refine e_call (by kernel_rfl) (rRead_ok _ _ _ _ _ _ _ hA (by first | omega | (simp only [List.length_append, List.length_map, List.length_cons, List.length_nil, List.length_take, List.length_drop, List.length_set] <;> omega)) (by first | omega | (simp only [List.length_append, List.length_map, List.length_cons, List.length_nil, List.length_take, List.length_drop, List.length_set] <;> omega)) _ (St.begin (Γ := [_]) hS6)) rfl (after_M (Γ1 := [_]) hS6 (fun v5 G5 w5 hv5 hS5 => ?_))
  clear hS6
  obtain ⟨ad5, cp5, rfl, rfl⟩ := hv5
  have hS7 : St _ _ [.ow 5 1 ad5 l.length cp5 (bv l), rdk kd da dc p l q s] _ := hS5; clear hS5
  refine hK _ _ ⟨⟨trivial, fun h => absurd h (by decide)⟩, fun h => absurd h (by decide)⟩ ?_; clear hK K
  refine o_pure (i := 10) (fun j w => ⟨(fun j w => ⟨(fun _ _ => trivial) j w, fun _ h => h⟩) j w, fun _ h => h⟩) rfl rfl (by kernel_rfl) (goes0 rfl) (QOk.then QOk.body) (fun w => q_move rfl) ?_
  refine o_pure (i := 11) (fun j w => ⟨(fun j w => ⟨(fun _ _ => trivial) j w, fun _ h => h⟩) j w, fun _ h => h⟩) rfl rfl (by kernel_rfl) (goes0 rfl) (QOk.then QOk.body) (fun w => q_extract rfl rfl) ?_
  refine o_pure (i := 12) (fun j w => ⟨(fun j w => ⟨(fun _ _ => trivial) j w, fun _ h => h⟩) j w, fun _ h => h⟩) rfl rfl (by kernel_rfl) (goes0 rfl) (QOk.then QOk.body) (fun w => q_extract rfl rfl) ?_
  refine o_pure (i := 13) (fun j w => ⟨(fun j w => ⟨(fun _ _ => trivial) j w, fun _ h => h⟩) j w, fun _ h => h⟩) rfl rfl (by kernel_rfl) (goes0 rfl) (QOk.then QOk.body) (fun w => q_assignS rfl) ?_
  refine o_pure (i := 14) (fun j w => ⟨(fun j w => ⟨(fun _ _ => trivial) j w, fun _ h => h⟩) j w, fun _ h => h⟩) rfl rfl (by kernel_rfl) (goes0 rfl) (QOk.then QOk.body) (fun w => q_assignI rfl) ?_
  refine o_done (by kernel_rfl) ?_
  refine hK2 _ _ ?_
  refine wp_seq_k (fun K8 hK8 => ?_)
  refine wp_region_lit ?_
  refine l_q rfl rfl (q_moveS rfl) ?_
  refine l_q rfl rfl (q_moveP rfl) ?_
  refine l_q rfl rfl (q_nilCheck rfl) ?_
  refine l_q rfl rfl (q_fieldAddr (ft := 3) (o := 1) rfl (by kernel_rfl)) ?_
  have hS9 := hS7.fr1; clear hS7
  have hS10 := rd_open hS9; clear hS9
  refine l_q rfl rfl (q_load1 rfl (by kernel_rfl) (hS10.cell (i := 0) rfl rfl)) ?_
  refine l_e rfl (fun K hK => ?_)
  have hcs11 := (hS10.owLen (i := 2) rfl).2.1
  refine e_call (by kernel_rfl) (scan_ok l (bytes_mid hA) p.length (by first | omega | (simp only [List.length_append, List.length_map, List.length_cons, List.length_nil, List.length_take, List.length_drop, List.length_set] <;> omega)) _ _ (by first | omega | (simp only [List.length_append, List.length_map, List.length_cons, List.length_nil, List.length_take, List.length_drop, List.length_set] <;> omega)) _ (hS10.owG (i := 2) rfl)) rfl (after_N hS10 (fun v11 G11 w11 hv11 hS11 => ?_))
  clear hS10
  obtain ⟨ad11, cp11, rs11, g11, rfl, rfl, hrs11, hab11⟩ := hv11
  have hS12 : St _ _ [.ow 96 2 ad11 rs11.length cp11 (List.flatMap rc rs11), .fz g11, .blk kd (.cells #[.slice da ((p ++ l ++ q).length) dc, .int .i64 ((p.length : Nat) : Int), .int .i64 (((p.length + l.length) : Nat) : Int), .int .i64 (((p.length + s) : Nat) : Int)] 85), .ow 5 1 da ((p ++ l ++ q).length) dc (bv (p ++ l ++ q)), .ow 5 1 ad5 l.length cp5 (bv l)] _ := hS11; clear hS11
  refine hK _ _ ?_; clear hK K
  have hsl := scan_le l.length l p.length (Nat.le_refl _)
  refine l_q rfl rfl (q_move rfl) ?_
  refine l_q rfl rfl (q_extract rfl rfl) ?_
  refine l_q rfl rfl (q_extract rfl rfl) ?_
  refine l_q rfl rfl (q_assignS rfl) ?_
  refine l_q rfl rfl (q_assignI rfl) ?_
  refine l_nil ?_
  refine hK8 _ _ ?_
  refine c_cut (τ := (List Nat) × (List Nat) × Nat) [(29, 42)] (fun x => (fun (l2 : List Nat) (q2 : List Nat) (s2 : Nat) => []) x.1 x.2.1 x.2.2) (fun x w' => (fun (l2 : List Nat) (q2 : List Nat) (s2 : Nat) => St w (owns [rdk kd da dc p l q s]) [.ow 96 2 ad11 rs11.length cp11 (List.flatMap rc rs11), rdk kd da dc p l2 q2 s2, .fz g11] w' ∧ l2 = l.take (scan l p.length).2 ∧ s2 = (scan l p.length).2 ∧ Bytes (p ++ l2 ++ q2) ∧ (p ++ l2 ++ q2).length ≤ (p ++ l ++ q).length) x.1 x.2.1 x.2.2) (fun K14 hK14 => ?_) (fun x14 j14 w14 hJ14 => ?_)
  ·
    refine wp_seq_k (fun K15 hK15 => ?_)
    refine wp_region_lit ?_
    refine l_q rfl rfl (q_moveI rfl) ?_
    refine l_q rfl rfl (q_moveS rfl) ?_
    refine l_q rfl rfl (q_lenSl (e := 5) rfl (by kernel_rfl)) ?_
    refine l_q rfl rfl (q_lss rfl rfl) ?_
    refine l_nil ?_
    refine hK15 _ _ ?_
    refine c_cond rfl (fun hc16 => ?_) (fun hc16 => ?_)
    ·
      have hc16b := hc16
      try simp only [decide_eq_true_eq, decide_eq_false_iff_not, Bool.not_eq_true', Bool.not_eq_false', Bool.and_eq_true, Bool.or_eq_true, Int.not_lt, Int.not_le, ne_eq, Decidable.not_not] at hc16
      refine wp_region_lit ?_
      refine l_q rfl rfl (q_moveP rfl) ?_
      refine l_q rfl rfl (q_moveP rfl) ?_
      refine l_q rfl rfl (q_nilCheck rfl) ?_
      refine l_q rfl rfl (q_fieldAddr (ft := 3) (o := 1) rfl (by kernel_rfl)) ?_
      refine l_q rfl rfl (q_load1 rfl (by kernel_rfl) (hS12.cell (i := 2) rfl rfl)) ?_
      refine l_q rfl rfl (q_moveI rfl) ?_
      refine l_q rfl rfl (q_addx rfl rfl (by first | decide | omega) (by first | decide | omega)) ?_
      refine l_e rfl (fun K hK => ?_)
      have hS18 := hS12.fr3; clear hS12
      have hS19 := hS18.fr3; clear hS18
      have hS20 := rd_close hS19; clear hS19
      have hRl17 : (p ++ l ++ q).length = p.length + l.length + q.length := by rw [List.length_append, List.length_append]
      refine e_call (by kernel_rfl) (rCut_ok _ _ _ _ _ _ _ hA (by first | omega | (simp only [List.length_append, List.length_map, List.length_cons, List.length_nil, List.length_take, List.length_drop, List.length_set] <;> omega)) (by first | omega | (simp only [List.length_append, List.length_map, List.length_cons, List.length_nil, List.length_take, List.length_drop, List.length_set] <;> omega)) _ (by first | omega | (simp only [List.length_append, List.length_map, List.length_cons, List.length_nil, List.length_take, List.length_drop, List.length_set] <;> omega)) (by first | omega | (simp only [List.length_append, List.length_map, List.length_cons, List.length_nil, List.length_take, List.length_drop, List.length_set] <;> omega)) _ (St.begin (Γ := [_]) hS20)) rfl (after_M (Γ1 := [_]) hS20 (fun v17 G17 w17 hv17 hS17 => ?_))
      clear hS20
      obtain ⟨q17, rfl, rfl, hB17, hQ17⟩ := hv17
      have hS21 : St _ _ [rdk kd da dc p (ctL l p.length (((p.length : Nat) : Int) + (((scan l p.length).2 : Nat) : Int))) q17 (ctS l p.length s (((p.length : Nat) : Int) + (((scan l p.length).2 : Nat) : Int))), .ow 96 2 ad11 rs11.length cp11 (List.flatMap rc rs11), .fz g11, .ow 5 1 ad5 l.length cp5 (bv l)] _ := hS17; clear hS17
      refine hK _ _ ?_; clear hK K
      have hct := ct_at (l := l) (b := p.length) (s := s) (o := (scan l p.length).2) (z := (((p.length : Nat) : Int) + (((scan l p.length).2 : Nat) : Int))) (by omega) hsl
      have hfit := And.intro hct.2.1 (And.intro hct.2.2 (And.intro hB17 hQ17))
      refine l_nil ?_
      have hS22 := hS21.fr2; clear hS21
      have hS23 := hS22.fr1; clear hS22
      have hS24 := hS23.fr2; clear hS23
      have hS25 : St _ _ [.ow 96 2 ad11 rs11.length cp11 (List.flatMap rc rs11), rdk kd da dc p (ctL l p.length (((p.length : Nat) : Int) + (((scan l p.length).2 : Nat) : Int))) q17 (ctS l p.length s (((p.length : Nat) : Int) + (((scan l p.length).2 : Nat) : Int))), .fz g11] _ := hS24.only 3; clear hS24
      refine hK14 _ _ (came (⟨(ctL l p.length (((p.length : Nat) : Int) + (((scan l p.length).2 : Nat) : Int))), q17, (ctS l p.length s (((p.length : Nat) : Int) + (((scan l p.length).2 : Nat) : Int)))⟩) (by repeat' (first | exact Agree.refl _ _ | refine Agree.up ?_ rfl | refine Agree.hav2 ?_ rfl | refine Agree.ups2 ?_ rfl)) (by repeat' (first | exact trivial | refine ⟨by first | rfl | exact int_succ _ | assumption, ?_⟩)) ?_)
      exact ⟨hS25, hfit⟩
    ·
      have hc16b := hc16
      try simp only [decide_eq_true_eq, decide_eq_false_iff_not, Bool.not_eq_true', Bool.not_eq_false', Bool.and_eq_true, Bool.or_eq_true, Int.not_lt, Int.not_le, ne_eq, Decidable.not_not] at hc16
      refine wp_region_lit ?_
      refine l_q rfl rfl (q_moveP rfl) ?_
      refine l_e rfl (fun K hK => ?_)
      have hS27 := hS12.fr3; clear hS12
      have hS28 := hS27.fr3; clear hS27
      have hS29 := rd_close hS28; clear hS28
      have hRl26 : (p ++ l ++ q).length = p.length + l.length + q.length := by rw [List.length_append, List.length_append]
      refine e_call (by kernel_rfl) (rSync_ok _ _ _ _ _ _ _ hA (by first | omega | (simp only [List.length_append, List.length_map, List.length_cons, List.length_nil, List.length_take, List.length_drop, List.length_set] <;> omega)) (by first | omega | (simp only [List.length_append, List.length_map, List.length_cons, List.length_nil, List.length_take, List.length_drop, List.length_set] <;> omega)) _ (St.begin (Γ := [_]) hS29)) rfl (after_M (Γ1 := [_]) hS29 (fun v26 G26 w26 hv26 hS26 => ?_))
      clear hS29
      obtain ⟨rfl, rfl⟩ := hv26
      have hS30 : St _ _ [rdk kd da dc p l q l.length, .ow 96 2 ad11 rs11.length cp11 (List.flatMap rc rs11), .fz g11, .ow 5 1 ad5 l.length cp5 (bv l)] _ := hS26; clear hS26
      refine hK _ _ ?_; clear hK K
      have hol : (scan l p.length).2 = l.length := by omega
      have hfit : l = l.take (scan l p.length).2 ∧ l.length = (scan l p.length).2 ∧ Bytes (p ++ l ++ q) ∧ (p ++ l ++ q).length ≤ (p ++ l ++ q).length := ⟨by rw [hol, List.take_length], hol.symm, hA, Nat.le_refl _⟩
      refine l_nil ?_
      have hS31 := hS30.fr2; clear hS30
      have hS32 := hS31.fr1; clear hS31
      have hS33 := hS32.fr2; clear hS32
      have hS34 : St _ _ [.ow 96 2 ad11 rs11.length cp11 (List.flatMap rc rs11), rdk kd da dc p l q l.length, .fz g11] _ := hS33.only 3; clear hS33
      refine hK14 _ _ (came (⟨l, q, l.length⟩) (by repeat' (first | exact Agree.refl _ _ | refine Agree.up ?_ rfl | refine Agree.hav2 ?_ rfl | refine Agree.ups2 ?_ rfl)) (by repeat' (first | exact trivial | refine ⟨by first | rfl | exact int_succ _ | assumption, ?_⟩)) ?_)
      exact ⟨hS34, hfit⟩
  ·
    obtain ⟨l2, q2, s2⟩ := x14
    obtain ⟨hS14, hl2, hs2, hA2, hQ2⟩ := hJ14
    try dsimp only at hS14 hl2 hs2 hA2 hQ2 ⊢
    refine wp_seq_k (fun K35 hK35 => ?_)
    refine wp_region_lit ?_
    refine l_q rfl rfl (q_moveP rfl) ?_
    refine l_q rfl rfl (q_moveS rfl) ?_
    refine l_q rfl rfl (q_build (ps := [(0, 1), (1, 1)]) (zv := .agg #[.pointer none, .slice none 0 0]) (by kernel_rfl) (by kernel_rfl) rfl (by repeat' (first | exact trivial | refine ⟨fun _ => by first | rfl | assumption | exact one_if (by assumption), ?_⟩ | refine ⟨fun ⟨_, h⟩ => by simp at h, ?_⟩)) rfl) ?_
    refine l_e rfl (fun K hK => ?_)
    refine e_boxA hS14 rfl (fun b36 w36 (hS36 : St _ _ [.blk b36 (.cells #[.pointer (some ⟨kd, 0, none⟩), .slice ad11 rs11.length cp11] 94), .ow 96 2 ad11 rs11.length cp11 (List.flatMap rc rs11), rdk kd da dc p l2 q2 s2, .fz g11] _) => ?_)
    clear hS14
    refine hK _ _ ?_; clear hK K
    refine l_q rfl rfl (q_assignP rfl) ?_
    refine l_nil ?_
    refine hK35 _ _ ?_
    refine wp_ret ?_
    refine c_ret1 rfl rfl ?_
    have hS37 := vk_close hS36; clear hS36
    subst hl2 hs2
    exact ⟨_, _, rfl, ⟨_, _, _, _, _, _, rfl, rfl, by assumption, by assumption, hA2, hQ2⟩, hS37⟩

set_option maxHeartbeats 1000000 in
set_option maxRecDepth 100000 in
theorem vAppend_ok (k kd : Nat) (ad : Option Addr) (cap : Nat) (rs : List Rc) (da : Option Addr) (dc : Nat) (p l q : List Nat) (s : Nat) (g : Gh) (hn : rs.length ≤ 1000000) (hA : Bytes (p ++ l ++ q)) (hb : (p ++ l ++ q).length ≤ 900000000) (hs : s ≤ l.length) (hR : RsOk g rs) (g2 : Gh) (m : List Nat) (hm : Bytes m) (am : Option Addr) (cm : Nat) (hml : m.length ≤ 1000000) (hM : SlG g2 am (bv m)) (w : World) (hg : Rog [vk k kd ad cap rs, rdk kd da dc p l q s, .fz g] w g2) (hS : St w (owns [vk k kd ad cap rs, rdk kd da dc p l q s, .fz g]) [vk k kd ad cap rs, rdk kd da dc p l q s, .fz g] w) : Calls Try.prog 48 #[pV k, .slice am m.length cm] w (Post w [vk k kd ad cap rs, rdk kd da dc p l q s, .fz g] fun v G => ∃ ad' cap' rs' da' dc' q' g', v = .tuple #[.int .i64 ((waN l m p.length : Nat) : Int), .int .i64 ((waE l m : Nat) : Int)] ∧ G = [vk k kd ad' cap' rs', rdk kd da' dc' p (waL l m) q' s, .fz g'] ∧ Gle g g' ∧ RsOk g' rs' ∧ rs'.map Rc.abs = waR (rs.map Rc.abs) l m p.length ∧ Bytes (p ++ waL l m ++ q') ∧ (p ++ waL l m ++ q').length ≤ (p ++ l ++ q).length + m.length + 5) := by
  have hAl : (p ++ l ++ q).length = p.length + l.length + q.length := by rw [List.length_append, List.length_append]
  refine c_enter Try.func48 rfl rfl rfl ?_
  refine wp_seq_k (fun K1 hK1 => ?_)
  have hS2 := vk_open hS; clear hS
  refine wp_region_lit ?_
  refine l_q rfl rfl (q_assignI rfl) ?_
  refine l_q rfl rfl (q_assignI rfl) ?_
  refine l_nil ?_
  refine hK1 _ _ ?_
  refine wp_seq_k (fun K3 hK3 => ?_)
  refine wp_seq_k (fun K4 hK4 => ?_)
  refine wp_region_lit ?_
  refine l_q rfl rfl (q_moveS rfl) ?_
  refine l_q rfl rfl (q_lenSl (e := 5) rfl (by kernel_rfl)) ?_
  refine l_q rfl rfl (q_lss rfl rfl) ?_
  refine l_q rfl rfl (q_moveB rfl) ?_
  refine g_splitL (t := 11) rfl (fun hg5 => ?_) (fun hg5 => ?_)
  ·
    have hg5b := hg5
    try simp only [decide_eq_true_eq, decide_eq_false_iff_not, Bool.not_eq_true', Bool.not_eq_false', Bool.and_eq_true, Bool.or_eq_true, Int.not_lt, Int.not_le, ne_eq, Decidable.not_not] at hg5
    have hx : ¬ waOk m := by unfold waOk; omega
    refine l_off rfl rfl rfl hg5b ?_
    refine l_off rfl rfl rfl hg5b ?_
    refine l_off rfl rfl rfl hg5b ?_
    refine l_q rfl rfl (q_pickT rfl hg5b rfl) ?_
    refine l_nil ?_
    refine hK4 _ _ ?_
    refine c_condT rfl rfl ?_
    refine wp_seq_k (fun K7 hK7 => ?_)
    refine wp_region_lit ?_
    refine l_q rfl rfl (q_assignI rfl) ?_
    refine l_q rfl rfl (q_assignI rfl) ?_
    refine l_nil ?_
    refine hK7 _ _ ?_
    refine wp_ret ?_
    refine c_ret2 rfl rfl rfl ?_
    have hS8 := vk_close hS2; clear hS2
    exact ⟨_, _, rfl, ⟨ad, cap, rs, _, _, q, g, by rw [waE, waN, if_neg hx, if_neg hx]; rfl, by rw [waL, if_neg hx], Gle.refl g, hR, by rw [waR, if_neg (fun h => hx h.1)], by rw [waL, if_neg hx]; exact hA, by rw [waL, if_neg hx]; omega⟩, hS8⟩
  ·
    have hg5b := hg5
    try simp only [decide_eq_true_eq, decide_eq_false_iff_not, Bool.not_eq_true', Bool.not_eq_false', Bool.and_eq_true, Bool.or_eq_true, Int.not_lt, Int.not_le, ne_eq, Decidable.not_not] at hg5
    refine l_on rfl rfl hg5b ?_
    refine l_q rfl rfl (q_moveS rfl) ?_
    refine l_on rfl rfl hg5b ?_
    refine l_q rfl rfl (q_lenSl (e := 5) rfl (by kernel_rfl)) ?_
    refine l_on rfl rfl hg5b ?_
    refine l_q rfl rfl (q_gtr rfl rfl) ?_
    refine l_q rfl rfl (q_pickF rfl hg5b rfl) ?_
    refine l_nil ?_
    refine hK4 _ _ ?_
    refine c_cond rfl (fun hc9 => ?_) (fun hc9 => ?_)
    ·
      have hc9b := hc9
      try simp only [decide_eq_true_eq, decide_eq_false_iff_not, Bool.not_eq_true', Bool.not_eq_false', Bool.and_eq_true, Bool.or_eq_true, Int.not_lt, Int.not_le, ne_eq, Decidable.not_not] at hc9
      have hx : ¬ waOk m := by unfold waOk; omega
      refine wp_seq_k (fun K10 hK10 => ?_)
      refine wp_region_lit ?_
      refine l_q rfl rfl (q_assignI rfl) ?_
      refine l_q rfl rfl (q_assignI rfl) ?_
      refine l_nil ?_
      refine hK10 _ _ ?_
      refine wp_ret ?_
      refine c_ret2 rfl rfl rfl ?_
      have hS11 := vk_close hS2; clear hS2
      exact ⟨_, _, rfl, ⟨ad, cap, rs, _, _, q, g, by rw [waE, waN, if_neg hx, if_neg hx]; rfl, by rw [waL, if_neg hx], Gle.refl g, hR, by rw [waR, if_neg (fun h => hx h.1)], by rw [waL, if_neg hx]; exact hA, by rw [waL, if_neg hx]; omega⟩, hS11⟩
    ·
      have hc9b := hc9
      try simp only [decide_eq_true_eq, decide_eq_false_iff_not, Bool.not_eq_true', Bool.not_eq_false', Bool.and_eq_true, Bool.or_eq_true, Int.not_lt, Int.not_le, ne_eq, Decidable.not_not] at hc9
      have hx : waOk m := by unfold waOk; omega
      have hx' := hx
      unfold waOk at hx'
      have hfl := fr_len m
      refine wp_skip ?_
      refine hK3 _ _ ?_
      refine wp_seq_k (fun K12 hK12 => ?_)
      refine r_any (by kernel_rfl) hS2 (fun w13 hS13 => ?_)
      clear hS2
      refine o_pure (i := 0) (fun _ _ => trivial) rfl rfl (by kernel_rfl) (goes0 rfl) (QOk.then QOk.body) (fun w => q_moveP rfl) ?_
      refine o_pure (i := 1) (fun _ _ => trivial) rfl rfl (by kernel_rfl) (goes0 rfl) (QOk.then QOk.body) (fun w => q_nilCheck rfl) ?_
      refine o_pure (i := 2) (fun _ _ => trivial) rfl rfl (by kernel_rfl) (goes0 rfl) (QOk.then QOk.body) (fun w => q_fieldAddr (ft := 83) (o := 0) rfl (by kernel_rfl)) ?_
      refine o_held (i := 3) [6, 7, 8, 9, 10, 11] (fun _ _ => trivial) rfl rfl (by kernel_rfl) (goes0 rfl) (QOk.then QOk.body) (q_load1 rfl (by kernel_rfl) (hS13.cell (i := 0) rfl rfl)) ?_
      refine o_pure (i := 4) (fun j w => ⟨(fun _ _ => trivial) j w, fun _ h => h⟩) rfl rfl (by kernel_rfl) (goes0 rfl) (QOk.then QOk.body) (fun w => q_moveS rfl) ?_
      refine o_eff (i := 5) (by kernel_rfl) rfl (goes0 rfl) (fun K hK => ?_)
      have hB14 : Bytes (fr m) := fr_bytes hm
      refine e_call (by kernel_rfl) (rframe_ok m hm m.length (by first | omega | (simp only [List.length_append, List.length_map, List.length_cons, List.length_nil, List.length_take, List.length_drop, List.length_set] <;> omega)) (by first | omega | (simp only [List.length_append, List.length_map, List.length_cons, List.length_nil, List.length_take, List.length_drop, List.length_set] <;> omega)) (by first | omega | (simp only [List.length_append, List.length_map, List.length_cons, List.length_nil, List.length_take, List.length_drop, List.length_set] <;> omega)) _ _ _ (hM.mono (hg.le hS13))) rfl (after_N hS13 (fun v14 G14 w14 hv14 hS14 => ?_))
      clear hS13
      obtain ⟨ad14, cp14, rfl, rfl⟩ := hv14
      have hS15 : St _ _ [.ow 5 1 ad14 ((fr m).length) cp14 (bv (fr m)), .blk k (.cells #[.pointer (some ⟨kd, 0, none⟩), .slice ad rs.length cap] 94), .ow 96 2 ad rs.length cap (List.flatMap rc rs), rdk kd da dc p l q s, .fz g] _ := hS14; clear hS14
      refine hK _ _ ⟨trivial, fun _ _ => by first | exact q_load1 rfl (by kernel_rfl) (hS15.cell (i := 1) rfl rfl)⟩ ?_; clear hK K
      refine o_eff (i := 6) (by kernel_rfl) rfl (goes0 rfl) (fun K hK => ?_)
      have hS17 := hS15.fr3; clear hS15
      have hRl16 : (p ++ l ++ q).length = p.length + l.length + q.length := by rw [List.length_append, List.length_append]
      obtain ⟨g18, hg18, hG18⟩ := St.rogO (Γ1 := [_]) (i := 0) hS17 rfl
      refine e_call (by kernel_rfl) (rAppend_ok _ _ _ _ _ _ _ hA (by first | omega | (simp only [List.length_append, List.length_map, List.length_cons, List.length_nil, List.length_take, List.length_drop, List.length_set] <;> omega)) (by first | omega | (simp only [List.length_append, List.length_map, List.length_cons, List.length_nil, List.length_take, List.length_drop, List.length_set] <;> omega)) _ (fr m) hB14 _ _ (by first | omega | (simp only [List.length_append, List.length_map, List.length_cons, List.length_nil, List.length_take, List.length_drop, List.length_set] <;> omega)) hG18 _ hg18 (St.begin (Γ := [_]) hS17)) rfl (after_M (Γ1 := [_]) hS17 (fun v16 G16 w16 hv16 hS16 => ?_))
      clear hS17
      obtain ⟨ad16, cp16, q16, rfl, rfl, hB16, hQ16⟩ := hv16
      have hS19 : St _ _ [rdk kd ad16 cp16 p (apL l (fr m)) q16 s, .ow 5 1 ad14 ((fr m).length) cp14 (bv (fr m)), .blk k (.cells #[.pointer (some ⟨kd, 0, none⟩), .slice ad rs.length cap] 94), .ow 96 2 ad rs.length cap (List.flatMap rc rs), .fz g] _ := hS16; clear hS16
      have hL16 := apL_len l (fr m)
      refine hK _ _ ⟨trivial, fun h => absurd h (by decide)⟩ ?_; clear hK K
      refine o_pure (i := 7) (fun j w => ⟨(fun _ _ => trivial) j w, fun _ h => h⟩) rfl rfl (by kernel_rfl) (goes0 rfl) (QOk.then QOk.body) (fun w => q_move rfl) ?_
      refine o_pure (i := 8) (fun j w => ⟨(fun _ _ => trivial) j w, fun _ h => h⟩) rfl rfl (by kernel_rfl) (goes0 rfl) (QOk.then QOk.body) (fun w => q_extract rfl rfl) ?_
      refine o_pure (i := 9) (fun j w => ⟨(fun _ _ => trivial) j w, fun _ h => h⟩) rfl rfl (by kernel_rfl) (goes0 rfl) (QOk.then QOk.body) (fun w => q_extract rfl rfl) ?_
      refine o_pure (i := 10) (fun j w => ⟨(fun _ _ => trivial) j w, fun _ h => h⟩) rfl rfl (by kernel_rfl) (goes0 rfl) (QOk.then QOk.body) (fun w => q_assignI rfl) ?_
      refine o_pure (i := 11) (fun j w => ⟨(fun _ _ => trivial) j w, fun _ h => h⟩) rfl rfl (by kernel_rfl) (goes0 rfl) (QOk.then QOk.body) (fun w => q_assignI rfl) ?_
      refine o_done (by kernel_rfl) ?_
      refine hK12 _ _ ?_
      refine wp_seq_k (fun K20 hK20 => ?_)
      refine wp_seq_k (fun K21 hK21 => ?_)
      refine wp_region_lit ?_
      refine l_q rfl rfl (q_moveI rfl) ?_
      refine l_q rfl rfl (q_neq rfl rfl) ?_
      refine l_nil ?_
      refine hK21 _ _ ?_
      refine c_cond rfl (fun hc22 => ?_) (fun hc22 => ?_)
      ·
        have hc22b := hc22
        try simp only [decide_eq_true_eq, decide_eq_false_iff_not, Bool.not_eq_true', Bool.not_eq_false', Bool.and_eq_true, Bool.or_eq_true, Int.not_lt, Int.not_le, ne_eq, Decidable.not_not] at hc22
        have he : apE l (fr m) ≠ 0 := by omega
        refine wp_seq_k (fun K23 hK23 => ?_)
        refine wp_region_lit ?_
        refine l_q rfl rfl (q_moveI rfl) ?_
        refine l_q rfl rfl (q_assignI rfl) ?_
        refine l_q rfl rfl (q_assignI rfl) ?_
        refine l_nil ?_
        refine hK23 _ _ ?_
        refine wp_ret ?_
        refine c_ret2 rfl rfl rfl ?_
        have hS24 := hS19.fr3; clear hS19
        have hS25 := hS24.fr3; clear hS24
        have hS26 := vk_close hS25; clear hS25
        have hS27 := hS26.fr3; clear hS26
        have hS28 := hS27.fr2; clear hS27
        have hS29 := hS28.fr2; clear hS28
        have hS30 : St _ _ [vk k kd ad cap rs, rdk kd ad16 cp16 p (apL l (fr m)) q16 s, .fz g] _ := hS29.only 3; clear hS29
        exact ⟨_, _, rfl, ⟨ad, cap, rs, _, _, _, g, by rw [waE, waN, if_pos hx, if_pos hx, apN_no he]; rfl, by rw [waL, if_pos hx], Gle.refl g, hR, by rw [waR, if_neg (fun h => he h.2)], by rw [waL, if_pos hx]; assumption, by rw [waL, if_pos hx]; have hfl2 := fr_len m; omega⟩, hS30⟩
      ·
        have hc22b := hc22
        try simp only [decide_eq_true_eq, decide_eq_false_iff_not, Bool.not_eq_true', Bool.not_eq_false', Bool.and_eq_true, Bool.or_eq_true, Int.not_lt, Int.not_le, ne_eq, Decidable.not_not] at hc22
        have he : apE l (fr m) = 0 := by omega
        obtain ⟨hN, hroom⟩ := apE_0 (b := p.length) he
        refine wp_skip ?_
        refine hK20 _ _ ?_
        refine wp_seq_k (fun K31 hK31 => ?_)
        refine wp_region_lit ?_
        refine l_q rfl rfl (q_moveP rfl) ?_
        refine l_e rfl (fun K hK => ?_)
        refine e_buildSlice0 (e := 96) (m := 2) hS19 (by kernel_rfl) (by kernel_rfl) (fun b32 w32 (hS32 : St _ _ [.blk b32 (.cells #[] 96), rdk kd ad16 cp16 p (apL l (fr m)) q16 s, .ow 5 1 ad14 ((fr m).length) cp14 (bv (fr m)), .blk k (.cells #[.pointer (some ⟨kd, 0, none⟩), .slice ad rs.length cap] 94), .ow 96 2 ad rs.length cap (List.flatMap rc rs), .fz g] _) => ?_)
        clear hS19
        have hS32o : St _ _ [.ow 96 2 (some ⟨b32, 0, none⟩) 0 0 (List.flatMap rc []), rdk kd ad16 cp16 p (apL l (fr m)) q16 s, .ow 5 1 ad14 ((fr m).length) cp14 (bv (fr m)), .blk k (.cells #[.pointer (some ⟨kd, 0, none⟩), .slice ad rs.length cap] 94), .ow 96 2 ad rs.length cap (List.flatMap rc rs), .fz g] _ := hS32.blkOw' (i := 0) (m := 0) (size := 2) (xs := List.flatMap rc []) rfl rfl rfl (by decide); clear hS32
        refine hK _ _ ?_; clear hK K
        refine l_q rfl rfl (q_moveP rfl) ?_
        refine l_q rfl rfl (q_nilCheck rfl) ?_
        refine l_q rfl rfl (q_fieldAddr (ft := 92) (o := 1) rfl (by kernel_rfl)) ?_
        refine l_q rfl rfl (q_load1 rfl (by kernel_rfl) (hS32o.cell (i := 3) rfl rfl)) ?_
        refine l_e rfl (fun K hK => ?_)
        refine e_app (e := 96) (size := 2) (bytes := 32) (i := 0) (m' := rs.length) (by kernel_rfl) hS32o rfl rfl rfl (SlG.src (e := 96) (by kernel_rfl) (hS32o.owG (i := 4) rfl) ((rows_len (c := rc) (m := 2) (fun _ => rfl) _).trans (by first | rfl | (simp only [List.length_append, List.length_map, List.length_cons, List.length_nil, List.length_take, List.length_drop, List.length_set]; done) | (simp only [List.length_append, List.length_map, List.length_cons, List.length_nil, List.length_take, List.length_drop, List.length_set]; omega) | omega)) (by decide) (rows_one rc_ones)) (by first | omega | (simp only [List.length_append, List.length_map, List.length_cons, List.length_nil, List.length_take, List.length_drop, List.length_set] <;> omega) | (simp; done)) rfl (by first | omega | (simp only [maxLen, List.length_append, List.length_map, List.length_cons, List.length_nil, List.length_take, List.length_drop, List.length_set] <;> omega) | (simp only [maxLen]; omega)) (by first | omega | (simp only [List.length_append, List.length_map, List.length_cons, List.length_nil, List.length_take, List.length_drop, List.length_set] <;> omega)) (fun ad33 cp33 w33 (hS33 : St _ _ [.ow 96 2 ad33 rs.length cp33 (List.flatMap rc rs), rdk kd ad16 cp16 p (apL l (fr m)) q16 s, .ow 5 1 ad14 ((fr m).length) cp14 (bv (fr m)), .blk k (.cells #[.pointer (some ⟨kd, 0, none⟩), .slice ad rs.length cap] 94), .ow 96 2 ad rs.length cap (List.flatMap rc rs), .fz g] _) => ?_)
        clear hS32o
        refine hK _ _ ?_; clear hK K
        refine l_q rfl rfl (q_moveI rfl) ?_
        refine l_e rfl (fun K hK => ?_)
        refine e_buildSlice1 (e := 5) (zv := .int .u8 0) (xs := []) hS33 (by kernel_rfl) (by kernel_rfl) (by kernel_rfl) rfl rfl rfl rfl ((by intro u hu; cases hu)) rfl (fun b34 w34 (hS34 : St _ _ [.blk b34 (.cells #[] 5), .ow 96 2 ad33 rs.length cp33 (List.flatMap rc rs), rdk kd ad16 cp16 p (apL l (fr m)) q16 s, .ow 5 1 ad14 ((fr m).length) cp14 (bv (fr m)), .blk k (.cells #[.pointer (some ⟨kd, 0, none⟩), .slice ad rs.length cap] 94), .ow 96 2 ad rs.length cap (List.flatMap rc rs), .fz g] _) => ?_)
        clear hS33
        have hS34o : St _ _ [.ow 5 1 (some ⟨b34, 0, none⟩) 0 0 (bv []), .ow 96 2 ad33 rs.length cp33 (List.flatMap rc rs), rdk kd ad16 cp16 p (apL l (fr m)) q16 s, .ow 5 1 ad14 ((fr m).length) cp14 (bv (fr m)), .blk k (.cells #[.pointer (some ⟨kd, 0, none⟩), .slice ad rs.length cap] 94), .ow 96 2 ad rs.length cap (List.flatMap rc rs), .fz g] _ := hS34.blkOw' (i := 0) (m := 0) (size := 1) (xs := bv []) rfl rfl rfl (by decide); clear hS34
        refine hK _ _ ?_; clear hK K
        refine l_q rfl rfl (q_moveS rfl) ?_
        refine l_e rfl (fun K hK => ?_)
        refine e_app (e := 5) (size := 1) (bytes := 1) (i := 0) (m' := m.length) (by kernel_rfl) hS34o rfl rfl rfl (SlG.src (e := 5) (by kernel_rfl) (hM.mono (hg.le hS34o)) (by first | (simp only [List.length_append, List.length_map, List.length_cons, List.length_nil, List.length_take, List.length_drop, List.length_set, Nat.mul_one]; done) | (simp only [List.length_append, List.length_map, List.length_cons, List.length_nil, List.length_take, List.length_drop, List.length_set]; omega) | rfl | (simp; done)) (by decide) (bv_one _)) (by first | omega | (simp only [List.length_append, List.length_map, List.length_cons, List.length_nil, List.length_take, List.length_drop, List.length_set] <;> omega) | (simp; done)) rfl (by first | omega | (simp only [maxLen, List.length_append, List.length_map, List.length_cons, List.length_nil, List.length_take, List.length_drop, List.length_set] <;> omega) | (simp only [maxLen]; omega)) (by first | omega | (simp only [List.length_append, List.length_map, List.length_cons, List.length_nil, List.length_take, List.length_drop, List.length_set] <;> omega)) (fun ad35 cp35 w35 (hS35 : St _ _ [.ow 5 1 ad35 m.length cp35 (bv m), .ow 96 2 ad33 rs.length cp33 (List.flatMap rc rs), rdk kd ad16 cp16 p (apL l (fr m)) q16 s, .ow 5 1 ad14 ((fr m).length) cp14 (bv (fr m)), .blk k (.cells #[.pointer (some ⟨kd, 0, none⟩), .slice ad rs.length cap] 94), .ow 96 2 ad rs.length cap (List.flatMap rc rs), .fz g] _) => ?_)
        clear hS34o
        refine hK _ _ ?_; clear hK K
        have hS36 := hS35.fr6; clear hS35
        have hS37 := hS36.fr1; clear hS36
        obtain ⟨g38, hle38, hfz38, hS38⟩ := hS37.freezeOw; clear hS37
        refine l_q rfl rfl (q_build (ps := [(0, 1), (1, 1)]) (zv := .agg #[.int .i64 0, .slice none 0 0]) (by kernel_rfl) (by kernel_rfl) rfl (by repeat' (first | exact trivial | refine ⟨fun _ => by first | rfl | assumption | exact one_if (by assumption), ?_⟩ | refine ⟨fun ⟨_, h⟩ => by simp at h, ?_⟩)) rfl) ?_
        refine l_e rfl (fun K hK => ?_)
        refine e_buildSliceA (e := 96) (m := 2) (zv := .agg #[.int .i64 0, .slice none 0 0]) hS38 (by kernel_rfl) (by kernel_rfl) (by kernel_rfl) rfl rfl rfl rfl (fun b39 w39 (hS39 : St _ _ [.blk b39 (.cells #[.int .i64 (((apN l (fr m) p.length) : Nat) : Int), .slice ad35 m.length cp35] 96), .fz g38, .ow 96 2 ad33 rs.length cp33 (List.flatMap rc rs), rdk kd ad16 cp16 p (apL l (fr m)) q16 s, .ow 5 1 ad14 ((fr m).length) cp14 (bv (fr m)), .blk k (.cells #[.pointer (some ⟨kd, 0, none⟩), .slice ad rs.length cap] 94), .ow 96 2 ad rs.length cap (List.flatMap rc rs)] _) => ?_)
        clear hS38
        have hS39o : St _ _ [.ow 96 2 (some ⟨b39, 0, none⟩) 1 1 (List.flatMap rc [Rc.mk (apN l (fr m) p.length) ad35 cp35 m]), .fz g38, .ow 96 2 ad33 rs.length cp33 (List.flatMap rc rs), rdk kd ad16 cp16 p (apL l (fr m)) q16 s, .ow 5 1 ad14 ((fr m).length) cp14 (bv (fr m)), .blk k (.cells #[.pointer (some ⟨kd, 0, none⟩), .slice ad rs.length cap] 94), .ow 96 2 ad rs.length cap (List.flatMap rc rs)] _ := hS39.blkOw' (i := 0) (m := 1) (size := 2) (xs := List.flatMap rc [Rc.mk (apN l (fr m) p.length) ad35 cp35 m]) rfl rfl rfl (by decide); clear hS39
        refine hK _ _ ?_; clear hK K
        refine l_e rfl (fun K hK => ?_)
        refine e_app (e := 96) (size := 2) (bytes := 32) (i := 2) (m' := (rs ++ [Rc.mk (apN l (fr m) p.length) ad35 cp35 m]).length) (by kernel_rfl) hS39o rfl rfl rfl (SlG.src (e := 96) (by kernel_rfl) (hS39o.owG (i := 0) rfl) ((rows_len (c := rc) (m := 2) (fun _ => rfl) _).trans (by first | rfl | (simp only [List.length_append, List.length_map, List.length_cons, List.length_nil, List.length_take, List.length_drop, List.length_set]; done) | (simp only [List.length_append, List.length_map, List.length_cons, List.length_nil, List.length_take, List.length_drop, List.length_set]; omega) | omega)) (by decide) (rows_one rc_ones)) (by first | omega | (simp only [List.length_append, List.length_map, List.length_cons, List.length_nil, List.length_take, List.length_drop, List.length_set] <;> omega) | (simp; done)) rows_app (by first | omega | (simp only [maxLen, List.length_append, List.length_map, List.length_cons, List.length_nil, List.length_take, List.length_drop, List.length_set] <;> omega) | (simp only [maxLen]; omega)) (by first | omega | (simp only [List.length_append, List.length_map, List.length_cons, List.length_nil, List.length_take, List.length_drop, List.length_set] <;> omega)) (fun ad40 cp40 w40 (hS40 : St _ _ [.ow 96 2 (some ⟨b39, 0, none⟩) 1 1 (List.flatMap rc [Rc.mk (apN l (fr m) p.length) ad35 cp35 m]), .fz g38, .ow 96 2 ad40 ((rs ++ [Rc.mk (apN l (fr m) p.length) ad35 cp35 m]).length) cp40 (List.flatMap rc (rs ++ [Rc.mk (apN l (fr m) p.length) ad35 cp35 m])), rdk kd ad16 cp16 p (apL l (fr m)) q16 s, .ow 5 1 ad14 ((fr m).length) cp14 (bv (fr m)), .blk k (.cells #[.pointer (some ⟨kd, 0, none⟩), .slice ad rs.length cap] 94), .ow 96 2 ad rs.length cap (List.flatMap rc rs)] _) => ?_)
        clear hS39o
        refine hK _ _ ?_; clear hK K
        refine l_q rfl rfl (q_nilCheck rfl) ?_
        refine l_q rfl rfl (q_fieldAddr (ft := 92) (o := 1) rfl (by kernel_rfl)) ?_
        refine l_e rfl (fun K hK => ?_)
        refine e_store1 hS40 rfl rfl (by kernel_rfl) (by first | rfl | assumption) (i := 5) rfl rfl (fun w41 (hS41 : St _ _ [.ow 96 2 (some ⟨b39, 0, none⟩) 1 1 (List.flatMap rc [Rc.mk (apN l (fr m) p.length) ad35 cp35 m]), .fz g38, .ow 96 2 ad40 ((rs ++ [Rc.mk (apN l (fr m) p.length) ad35 cp35 m]).length) cp40 (List.flatMap rc (rs ++ [Rc.mk (apN l (fr m) p.length) ad35 cp35 m])), rdk kd ad16 cp16 p (apL l (fr m)) q16 s, .ow 5 1 ad14 ((fr m).length) cp14 (bv (fr m)), .blk k (.cells #[.pointer (some ⟨kd, 0, none⟩), .slice ad40 ((rs ++ [Rc.mk (apN l (fr m) p.length) ad35 cp35 m]).length) cp40] 94), .ow 96 2 ad rs.length cap (List.flatMap rc rs)] _) => ?_)
        clear hS40
        refine hK _ _ ?_; clear hK K
        refine l_nil ?_
        refine hK31 _ _ ?_
        refine wp_seq_k (fun K42 hK42 => ?_)
        refine wp_region_lit ?_
        refine l_q rfl rfl (q_moveI rfl) ?_
        refine l_q rfl rfl (q_assignI rfl) ?_
        refine l_q rfl rfl (q_assignI rfl) ?_
        refine l_nil ?_
        refine hK42 _ _ ?_
        refine wp_ret ?_
        refine c_ret2 rfl rfl rfl ?_
        have hS43 := hS41.fr2; clear hS41
        have hS44 := hS43.fr5; clear hS43
        have hS45 := vk_close hS44; clear hS44
        have hS46 := hS45.fr2; clear hS45
        have hS47 := hS46.fr3; clear hS46
        have hS48 := hS47.fr2; clear hS47
        have hS49 : St _ _ [vk k kd ad40 cp40 (rs ++ [Rc.mk (apN l (fr m) p.length) ad35 cp35 m]), rdk kd ad16 cp16 p (apL l (fr m)) q16 s, .fz g38] _ := hS48.only 3; clear hS48
        exact ⟨_, _, rfl, ⟨_, _, _, _, _, _, g38, by rw [waE, waN, if_pos hx, if_pos hx, he]; rfl, by rw [waL, if_pos hx], hle38, (hR.mono hle38).app (RsOk.one ⟨hfz38, hm, hx'.2, (show apN l (fr m) p.length ≤ 2000000000 by omega), hx'.1⟩), by rw [waR, if_pos ⟨hx, he⟩, List.map_append, hN]; rfl, by rw [waL, if_pos hx]; assumption, by rw [waL, if_pos hx]; have hfl2 := fr_len m; omega⟩, hS49⟩

end Go.Proofs.Ytmbbkliekgiolaa
