/- Package table: what reads it; Copy; New. -/
import Derived.Test.YtmbbkliekgiolaaTa
import Derived.Test.YtmbbkliekgiolaaTb
set_option linter.unusedVariables false
set_option linter.unusedSimpArgs false
namespace Go.Proofs.Ytmbbkliekgiolaa
open Go.RowKit
/-- What lastly stands below a key. -/
def LastR (o : Option KV) (a : En) (is : Bool) : Prop := match o with | some c => is = true ∧ a.kb = c.1 ∧ a.rb = c.2 | none => is = false ∧ a = ⟨none, 0, [], none, 0, []⟩
theorem getL_bytes {g : Gh} {ps : List Pg} (h : TOk g ps) (key : List Nat) : Bytes ((getA (ab ps) key).getD []) ∧ ((getA (ab ps) key).getD []).length ≤ 1000000 := by
  unfold getA
  cases hq : (ab ps).find? fun a => decide (a.1 = key) with
  | none => exact ⟨Bytes.nil, by decide⟩
  | some c =>
    have hm := List.mem_of_find?_eq_some hq
    obtain ⟨p, hp, a, ha, rfl⟩ := mem_ab hm
    have := h.ent a (List.mem_flatMap.2 ⟨p, hp, ha⟩)
    exact ⟨this.1.2.2.2, this.2.2⟩
attribute [local irreducible] Oper.wp Sem.run Code.wp wpList wpAnyO callFunc execOp Calls
attribute [local irreducible] cmpL putA getA dropA lastB

set_option maxRecDepth 100000 in
theorem copied_ok (a : En) (w : World) (hE : EOk (hw w) a) : Calls Try.prog 61 #[.agg (en a).toArray] w (PostN w fun v G => ∃ a' : En, a'.kb = a.kb ∧ a'.rb = a.rb ∧ v = .agg (en a').toArray ∧ G = [.ow 5 1 a'.ka a'.kb.length a'.kc (bv a'.kb), .ow 5 1 a'.ra a'.rb.length a'.rc (bv a'.rb)]) := by
  have hS := St.start w
  have hkl := hE.2.1
  have hrl := hE.2.2
  refine c_enter Try.func61 rfl rfl rfl ?_
  refine wp_seq_k (fun K1 hK1 => ?_)
  refine wp_region_lit ?_
  refine l_e rfl (fun K hK => ?_)
  refine e_boxA hS rfl (fun b2 w2 (hS2 : St _ _ [.blk b2 (.cells #[.slice a.ka a.kb.length a.kc, .slice a.ra a.rb.length a.rc] 41)] _) => ?_)
  clear hS
  refine hK _ _ ?_; clear hK K
  refine l_e rfl (fun K hK => ?_)
  refine e_alloc (zv := .agg #[.slice none 0 0, .slice none 0 0]) hS2 (by kernel_rfl) (fun b3 w3 (hS3 : St _ _ [.blk b3 (.cells #[.slice none 0 0, .slice none 0 0] 41), .blk b2 (.cells #[.slice a.ka a.kb.length a.kc, .slice a.ra a.rb.length a.rc] 41)] _) => ?_)
  clear hS2
  refine hK _ _ ?_; clear hK K
  refine l_nil ?_
  refine hK1 _ _ ?_
  refine wp_seq_k (fun K4 hK4 => ?_)
  refine r_any (by kernel_rfl) hS3 (fun w5 hS5 => ?_)
  clear hS3
  refine o_pure (i := 0) (fun _ _ => trivial) rfl rfl (by kernel_rfl) (goes0 rfl) (QOk.then QOk.body) (fun w => q_fieldAddr (ft := 23) (o := 0) rfl (by kernel_rfl)) ?_
  refine o_held (i := 1) [2, 5, 6, 7] (fun _ _ => trivial) rfl rfl (by kernel_rfl) (goes0 rfl) (QOk.then QOk.body) (q_load1 rfl (by kernel_rfl) (hS5.cell (i := 1) rfl rfl)) ?_
  refine o_pure (i := 3) (fun j w => ⟨(fun _ _ => trivial) j w, fun _ h => h⟩) rfl rfl (by kernel_rfl) (goes0 rfl) (QOk.then QOk.body) (fun w => q_fieldAddr (ft := 23) (o := 1) rfl (by kernel_rfl)) ?_
  refine o_held (i := 4) [5, 6, 7] (fun j w => ⟨(fun _ _ => trivial) j w, fun _ h => h⟩) rfl rfl (by kernel_rfl) (goes0 rfl) (QOk.then QOk.body) (q_load1 rfl (by kernel_rfl) (hS5.cell (i := 1) rfl rfl)) ?_
  refine o_eff (i := 2) (by kernel_rfl) rfl (goes0 rfl) (fun K hK => ?_)
  refine e_call (by kernel_rfl) (Clone_ok a.kb _ _ a.kb.length (by first | omega | (simp only [List.length_append, List.length_map, List.length_cons, List.length_nil, List.length_take, List.length_drop, List.length_set] <;> omega)) (by first | omega | (simp only [List.length_append, List.length_map, List.length_cons, List.length_nil, List.length_take, List.length_drop, List.length_set] <;> omega)) _ (hE.1.1.mono hS5.base)) rfl (after_N hS5 (fun v6 G6 w6 hv6 hS6 => ?_))
  clear hS5
  obtain ⟨ad6, cp6, rfl, rfl⟩ := hv6
  have hS7 : St _ _ [.ow 5 1 ad6 a.kb.length cp6 (bv a.kb), .blk b3 (.cells #[.slice none 0 0, .slice none 0 0] 41), .blk b2 (.cells #[.slice a.ka a.kb.length a.kc, .slice a.ra a.rb.length a.rc] 41)] _ := hS6; clear hS6
  refine hK _ _ ⟨⟨trivial, fun h => absurd h (by decide)⟩, fun _ _ => by first | exact q_load1 rfl (by kernel_rfl) (hS7.cell (i := 2) rfl rfl)⟩ ?_; clear hK K
  refine o_eff (i := 5) (by kernel_rfl) rfl (goes0 rfl) (fun K hK => ?_)
  refine e_call (by kernel_rfl) (Clone_ok a.rb _ _ a.rb.length (by first | omega | (simp only [List.length_append, List.length_map, List.length_cons, List.length_nil, List.length_take, List.length_drop, List.length_set] <;> omega)) (by first | omega | (simp only [List.length_append, List.length_map, List.length_cons, List.length_nil, List.length_take, List.length_drop, List.length_set] <;> omega)) _ (hE.1.2.2.1.mono hS7.base)) rfl (after_N hS7 (fun v8 G8 w8 hv8 hS8 => ?_))
  clear hS7
  obtain ⟨ad8, cp8, rfl, rfl⟩ := hv8
  have hS9 : St _ _ [.ow 5 1 ad8 a.rb.length cp8 (bv a.rb), .ow 5 1 ad6 a.kb.length cp6 (bv a.kb), .blk b3 (.cells #[.slice none 0 0, .slice none 0 0] 41), .blk b2 (.cells #[.slice a.ka a.kb.length a.kc, .slice a.ra a.rb.length a.rc] 41)] _ := hS8; clear hS8
  refine hK _ _ ⟨⟨trivial, fun h => absurd h (by decide)⟩, fun h => absurd h (by decide)⟩ ?_; clear hK K
  refine o_pure (i := 6) (fun j w => ⟨(fun j w => ⟨(fun _ _ => trivial) j w, fun _ h => h⟩) j w, fun _ h => h⟩) rfl rfl (by kernel_rfl) (goes0 rfl) (QOk.then QOk.body) (fun w => q_build (ps := [(0, 1), (1, 1)]) (zv := .agg #[.slice none 0 0, .slice none 0 0]) (by kernel_rfl) (by kernel_rfl) rfl (by repeat' (first | exact trivial | refine ⟨fun _ => by first | rfl | assumption | exact one_if (by assumption), ?_⟩ | refine ⟨fun ⟨_, h⟩ => by simp at h, ?_⟩)) rfl) ?_
  refine o_eff (i := 7) (by kernel_rfl) rfl (goes0 rfl) (fun K hK => ?_)
  refine e_storeA hS9 rfl rfl (by kernel_rfl) (by repeat' (first | exact trivial | refine ⟨by first | rfl | assumption | exact one_if (by assumption), ?_⟩)) (i := 2) rfl rfl (fun w10 (hS10 : St _ _ [.ow 5 1 ad8 a.rb.length cp8 (bv a.rb), .ow 5 1 ad6 a.kb.length cp6 (bv a.kb), .blk b3 (.cells #[.slice ad6 a.kb.length cp6, .slice ad8 a.rb.length cp8] 41), .blk b2 (.cells #[.slice a.ka a.kb.length a.kc, .slice a.ra a.rb.length a.rc] 41)] _) => ?_)
  clear hS9
  refine hK _ _ ⟨⟨trivial, fun h => absurd h (by decide)⟩, fun h => absurd h (by decide)⟩ ?_; clear hK K
  refine o_done (by kernel_rfl) ?_
  refine hK4 _ _ ?_
  refine wp_ret ?_
  refine c_retC (m := 2) rfl (by kernel_rfl) (by kernel_rfl) rfl (by first | exact hS10.blk (i := 0) rfl | exact hS10.blk (i := 1) rfl | exact hS10.blk (i := 2) rfl | exact hS10.blk (i := 3) rfl | exact hS10.blk (i := 4) rfl) rfl ?_
  have hS11 := hS10.fr1; clear hS10
  have hS12 : St _ _ [.ow 5 1 ad6 a.kb.length cp6 (bv a.kb), .ow 5 1 ad8 a.rb.length cp8 (bv a.rb)] _ := hS11.only 2; clear hS11
  exact ⟨_, _, rfl, ⟨⟨ad6, cp6, a.kb, ad8, cp8, a.rb⟩, rfl, rfl, rfl, rfl⟩, hS12⟩

set_option maxRecDepth 100000 in
theorem get_ok (k : Nat) (ad : Option Addr) (cap : Nat) (ps : List Pg) (key : List Nat) (hkb : Bytes key) (hkl : key.length ≤ 1000000) (nk : Nat) (hnk : key.length = nk) (ak : Option Addr) (ck : Nat) (hsz : (flat ps).length ≤ 90000) (w : World) (hTR : TR (hw w) k ad cap ps) (hKk : SlG (hw w) ak (bv key)) : Calls Try.prog 20 #[pV k, .slice ak nk ck] w (PostN w fun v G => ∃ oa oc, v = .tuple #[.slice oa ((getA (ab ps) key).getD []).length oc, .bool (getA (ab ps) key).isSome] ∧ G = [.ow 5 1 oa ((getA (ab ps) key).getD []).length oc (bv ((getA (ab ps) key).getD []))]) := by
  have hS := St.start w
  subst hnk
  have hpgs := hTR.ok.pages
  refine c_enter Try.func20 rfl rfl rfl ?_
  refine wp_seq_k (fun K1 hK1 => ?_)
  refine wp_region_lit ?_
  refine l_q rfl rfl (q_assignS rfl) ?_
  refine l_q rfl rfl (q_assignB rfl) ?_
  refine l_nil ?_
  refine hK1 _ _ ?_
  refine wp_seq_k (fun K2 hK2 => ?_)
  refine wp_seq_k (fun K3 hK3 => ?_)
  refine wp_region_lit ?_
  refine l_q rfl rfl (q_moveP rfl) ?_
  refine l_q rfl rfl (q_peq rfl (by kernel_rfl)) ?_
  refine l_nil ?_
  refine hK3 _ _ ?_
  refine c_condF rfl rfl ?_
  refine wp_skip ?_
  refine hK2 _ _ ?_
  refine wp_seq_k (fun K5 hK5 => ?_)
  refine wp_region_lit ?_
  refine l_q rfl rfl (q_moveP rfl) ?_
  refine l_q rfl rfl (q_moveS rfl) ?_
  refine l_e rfl (fun K hK => ?_)
  refine e_call (by kernel_rfl) (find_ok k ps key hkb (by first | omega | (simp only [List.length_append, List.length_map, List.length_cons, List.length_nil, List.length_take, List.length_drop, List.length_set] <;> omega)) (by first | omega | (simp only [List.length_append, List.length_map, List.length_cons, List.length_nil, List.length_take, List.length_drop, List.length_set] <;> omega)) _ _ _ _ _ _ (hS.base _ _ hTR.blk) (fun p hp => (hTR.pgs p hp).mono hS.base) hTR.ok.pok (hTR.rows.mono hS.base) (hKk.mono hS.base)) rfl (after_R hS (fun v6 w6 hv6 hS6 => ?_))
  clear hS
  obtain ⟨i1, k1, fd1, rfl, hw1⟩ := hv6
  refine hK _ _ ?_; clear hK K
  refine l_q rfl rfl (q_move rfl) ?_
  refine l_q rfl rfl (q_extract rfl rfl) ?_
  refine l_q rfl rfl (q_extract rfl rfl) ?_
  refine l_q rfl rfl (q_extract rfl rfl) ?_
  refine l_q rfl rfl (q_assignI rfl) ?_
  refine l_q rfl rfl (q_assignI rfl) ?_
  refine l_q rfl rfl (q_assignB rfl) ?_
  refine l_nil ?_
  refine hK5 _ _ ?_
  refine wp_seq_k (fun K7 hK7 => ?_)
  refine wp_seq_k (fun K8 hK8 => ?_)
  refine wp_region_lit ?_
  refine l_q rfl rfl (q_moveB rfl) ?_
  refine l_q rfl rfl (q_not rfl) ?_
  refine l_nil ?_
  refine hK8 _ _ ?_
  refine c_cond rfl (fun hc9 => ?_) (fun hc9 => ?_)
  ·
    have hc9b := hc9
    try simp only [decide_eq_true_eq, decide_eq_false_iff_not, Bool.not_eq_true', Bool.not_eq_false', Bool.and_eq_true, Bool.or_eq_true, Int.not_lt, Int.not_le, ne_eq, Decidable.not_not] at hc9
    obtain rfl : fd1 = false := by first | exact hc9 | simpa using hc9
    refine wp_seq_k (fun K10 hK10 => ?_)
    refine wp_region_lit ?_
    refine l_q rfl rfl (q_assignS rfl) ?_
    refine l_q rfl rfl (q_assignB rfl) ?_
    refine l_nil ?_
    refine hK10 _ _ ?_
    refine wp_ret ?_
    refine c_ret2 rfl rfl rfl ?_
    have hno := hw1.get_no
    exact ⟨_, _, rfl, ⟨none, 0, by rw [hno]; rfl, by rw [hno]; rfl⟩, hS6.ow_nil _ _⟩
  ·
    have hc9b := hc9
    try simp only [decide_eq_true_eq, decide_eq_false_iff_not, Bool.not_eq_true', Bool.not_eq_false', Bool.and_eq_true, Bool.or_eq_true, Int.not_lt, Int.not_le, ne_eq, Decidable.not_not] at hc9
    obtain rfl : fd1 = true := by first | exact hc9 | simpa using hc9
    obtain ⟨p, a, hp, ha, hget⟩ := hw1.yes'
    have hpf_p := hTR.ok.pok.few _ (List.mem_of_getElem? hp)
    have hpl_p := lt_of_at hp
    have hpg_p := hTR.pgs _ (List.mem_of_getElem? hp)
    have hal_a := lt_of_at ha
    have hae_a := ent_at hTR.ok hp ha
    have hrl := hae_a.2.2
    refine wp_skip ?_
    refine hK7 _ _ ?_
    refine wp_seq_k (fun K11 hK11 => ?_)
    refine wp_region_lit ?_
    refine l_q rfl rfl (q_moveP rfl) ?_
    refine l_q rfl rfl (q_nilCheck rfl) ?_
    refine l_q rfl rfl (q_fieldAddr (ft := 105) (o := 0) rfl (by kernel_rfl)) ?_
    refine l_q rfl rfl (q_load1 rfl (by kernel_rfl) (cell_blk (hS6.base _ _ hTR.blk) rfl)) ?_
    refine l_q rfl rfl (q_moveI rfl) ?_
    refine l_q rfl rfl (q_ixG (e := 111) (m := 1) (j := i1) rfl rfl (by kernel_rfl) (by kernel_rfl) (by first | rfl | omega) (by omega) hTR.rows (by rw [rows_len (c := pg) (m := 1) (fun _ => rfl)]; first | omega | (simp only [List.length_append, List.length_map, List.length_cons, List.length_nil, List.length_take, List.length_drop, List.length_set] <;> omega))) ?_
    refine l_q rfl rfl (q_load1 rfl (by kernel_rfl) (SlG.cell (hTR.rows.mono hS6.base) (Gle.refl _) (row_at hp (c := pg) (m := 1) (fun _ => rfl) (j := 0) rfl))) ?_
    refine l_q rfl rfl (q_moveI rfl) ?_
    refine l_q rfl rfl (q_ixG (e := 41) (m := 2) (j := k1) rfl rfl (by kernel_rfl) (by kernel_rfl) (by first | rfl | omega) (by omega) hpg_p.1 (by rw [rows_len (c := en) (m := 2) (fun _ => rfl)]; first | omega | (simp only [List.length_append, List.length_map, List.length_cons, List.length_nil, List.length_take, List.length_drop, List.length_set] <;> omega))) ?_
    refine l_q rfl rfl (q_fieldG (ft := 23) (o := 1) rfl (by kernel_rfl)) ?_
    refine l_q rfl rfl (q_load1 rfl (by kernel_rfl) (SlG.cell (hpg_p.1.mono hS6.base) (Gle.refl _) (row_at ha (c := en) (m := 2) (fun _ => rfl) (j := 1) rfl))) ?_
    refine l_e rfl (fun K hK => ?_)
    refine e_call (by kernel_rfl) (Clone_ok a.rb _ _ a.rb.length (by first | omega | (simp only [List.length_append, List.length_map, List.length_cons, List.length_nil, List.length_take, List.length_drop, List.length_set] <;> omega)) (by first | omega | (simp only [List.length_append, List.length_map, List.length_cons, List.length_nil, List.length_take, List.length_drop, List.length_set] <;> omega)) _ (hae_a.1.2.2.1.mono hS6.base)) rfl (after_N hS6 (fun v12 G12 w12 hv12 hS12 => ?_))
    clear hS6
    obtain ⟨ad12, cp12, rfl, rfl⟩ := hv12
    have hS13 : St _ _ [.ow 5 1 ad12 a.rb.length cp12 (bv a.rb)] _ := hS12; clear hS12
    refine hK _ _ ?_; clear hK K
    refine l_q rfl rfl (q_assignS rfl) ?_
    refine l_q rfl rfl (q_assignB rfl) ?_
    refine l_nil ?_
    refine hK11 _ _ ?_
    refine wp_ret ?_
    refine c_ret2 rfl rfl rfl ?_
    exact ⟨_, _, rfl, ⟨ad12, cp12, by rw [hget]; rfl, by rw [hget]; rfl⟩, hS13⟩

set_option maxRecDepth 100000 in
theorem tlen_ok (k : Nat) (ad : Option Addr) (cap : Nat) (ps : List Pg) (w : World) (hTR : TR (hw w) k ad cap ps) : Calls Try.prog 19 #[pV k] w (PostR w fun v => v = .int .i64 (((flat ps).length : Nat) : Int)) := by
  have hS := St.start w
  refine c_enter Try.func19 rfl rfl rfl ?_
  refine wp_seq_k (fun K1 hK1 => ?_)
  refine wp_region_lit ?_
  refine l_q rfl rfl (q_assignI rfl) ?_
  refine l_nil ?_
  refine hK1 _ _ ?_
  refine wp_seq_k (fun K2 hK2 => ?_)
  refine wp_seq_k (fun K3 hK3 => ?_)
  refine wp_region_lit ?_
  refine l_q rfl rfl (q_moveP rfl) ?_
  refine l_q rfl rfl (q_peq rfl (by kernel_rfl)) ?_
  refine l_nil ?_
  refine hK3 _ _ ?_
  refine c_condF rfl rfl ?_
  refine wp_skip ?_
  refine hK2 _ _ ?_
  refine wp_seq_k (fun K5 hK5 => ?_)
  refine wp_region_lit ?_
  refine l_q rfl rfl (q_moveP rfl) ?_
  refine l_q rfl rfl (q_nilCheck rfl) ?_
  refine l_q rfl rfl (q_fieldAddr (ft := 3) (o := 1) rfl (by kernel_rfl)) ?_
  refine l_q rfl rfl (q_load1 rfl (by kernel_rfl) (cell_blk (hS.base _ _ hTR.blk) rfl)) ?_
  refine l_q rfl rfl (q_assignI rfl) ?_
  refine l_nil ?_
  refine hK5 _ _ ?_
  refine wp_ret ?_
  refine c_ret1 rfl rfl ?_
  exact ⟨_, rfl, rfl, hS.drop⟩

set_option maxRecDepth 100000 in
theorem tnew_ok (w : World) : Calls Try.prog 21 #[] w (PostN w fun v G => ∃ k, v = pV k ∧ G = [tb k none 0 []]) := by
  have hS := St.start w
  refine c_enter Try.func21 rfl rfl rfl ?_
  refine wp_seq_k (fun K1 hK1 => ?_)
  refine wp_region_lit ?_
  refine l_q rfl rfl (q_assignP rfl) ?_
  refine l_nil ?_
  refine hK1 _ _ ?_
  refine wp_seq_k (fun K2 hK2 => ?_)
  refine wp_region_lit ?_
  refine l_q rfl rfl (q_build (ps := [(0, 1), (1, 1)]) (zv := .agg #[.slice none 0 0, .int .i64 0]) (by kernel_rfl) (by kernel_rfl) rfl (by repeat' (first | exact trivial | refine ⟨fun _ => by first | rfl | assumption | exact one_if (by assumption), ?_⟩ | refine ⟨fun ⟨_, h⟩ => by simp at h, ?_⟩)) rfl) ?_
  refine l_e rfl (fun K hK => ?_)
  refine e_boxA hS rfl (fun b3 w3 (hS3 : St _ _ [.blk b3 (.cells #[.slice none 0 0, .int .i64 (0 : Int)] 107)] _) => ?_)
  clear hS
  refine hK _ _ ?_; clear hK K
  refine l_q rfl rfl (q_assignP rfl) ?_
  refine l_nil ?_
  refine hK2 _ _ ?_
  refine wp_ret ?_
  refine c_ret1 rfl rfl ?_
  exact ⟨_, _, rfl, ⟨_, rfl, rfl⟩, tb_shut (ps := []) (ad := none) (cap := 0) (m := 0) (sz := 0) (xs := []) (Δ := []) (((hS3.pk_nil).ow_nil 111 1).fr2) rfl rfl rfl rfl⟩

set_option maxRecDepth 100000 in
theorem last_ok (k : Nat) (ad : Option Addr) (cap : Nat) (ps : List Pg) (to : List Nat) (htb : Bytes to) (htl : to.length ≤ 1000000) (nt : Nat) (hnt : to.length = nt) (at_ : Option Addr) (ct : Nat) (hsz : (flat ps).length ≤ 90000) (w : World) (hTR : TR (hw w) k ad cap ps) (hTo : SlG (hw w) at_ (bv to)) : Calls Try.prog 24 #[pV k, .slice at_ nt ct] w (PostN w fun v G => ∃ (a' : En) (is : Bool), v = .tuple #[.agg (en a').toArray, .bool is] ∧ LastR (lastB (ab ps) to) a' is ∧ G = [.ow 5 1 a'.ka a'.kb.length a'.kc (bv a'.kb), .ow 5 1 a'.ra a'.rb.length a'.rc (bv a'.rb)]) := by
  have hS := St.start w
  subst hnt
  have hpgs := hTR.ok.pages
  refine c_enter Try.func24 rfl rfl rfl ?_
  refine wp_seq_k (fun K1 hK1 => ?_)
  refine wp_region_lit ?_
  refine l_e rfl (fun K hK => ?_)
  refine e_alloc (zv := .agg #[.slice none 0 0, .slice none 0 0]) hS (by kernel_rfl) (fun b2 w2 (hS2 : St _ _ [.blk b2 (.cells #[.slice none 0 0, .slice none 0 0] 41)] _) => ?_)
  clear hS
  refine hK _ _ ?_; clear hK K
  refine l_q rfl rfl (q_assignB rfl) ?_
  refine l_nil ?_
  refine hK1 _ _ ?_
  refine wp_seq_k (fun K3 hK3 => ?_)
  refine wp_seq_k (fun K4 hK4 => ?_)
  refine wp_region_lit ?_
  refine l_q rfl rfl (q_moveP rfl) ?_
  refine l_q rfl rfl (q_peq rfl (by kernel_rfl)) ?_
  refine l_q rfl rfl (q_moveB rfl) ?_
  refine l_on rfl rfl rfl ?_
  refine l_q rfl rfl (q_moveP rfl) ?_
  refine l_on rfl rfl rfl ?_
  refine l_q rfl rfl (q_nilCheck rfl) ?_
  refine l_on rfl rfl rfl ?_
  refine l_q rfl rfl (q_fieldAddr (ft := 3) (o := 1) rfl (by kernel_rfl)) ?_
  refine l_on rfl rfl rfl ?_
  refine l_q rfl rfl (q_load1 rfl (by kernel_rfl) (cell_blk (hS2.base _ _ hTR.blk) rfl)) ?_
  refine l_on rfl rfl rfl ?_
  refine l_q rfl rfl (q_eql rfl rfl) ?_
  refine l_q rfl rfl (q_pickF rfl rfl rfl) ?_
  refine l_nil ?_
  refine hK4 _ _ ?_
  refine c_cond rfl (fun hc5 => ?_) (fun hc5 => ?_)
  ·
    have hc5b := hc5
    try simp only [decide_eq_true_eq, decide_eq_false_iff_not, Bool.not_eq_true', Bool.not_eq_false', Bool.and_eq_true, Bool.or_eq_true, Int.not_lt, Int.not_le, ne_eq, Decidable.not_not] at hc5
    have hlast : lastB (ab ps) to = none := by
      have hp0 : ab ps = [] := by unfold ab; rw [List.eq_nil_of_length_eq_zero (show (flat ps).length = 0 by omega)]; rfl
      unfold lastB; rw [hp0]; split <;> rfl
    refine wp_seq_k (fun K6 hK6 => ?_)
    refine wp_region_lit ?_
    refine l_q rfl rfl (q_build (ps := [(0, 1), (1, 1)]) (zv := .agg #[.slice none 0 0, .slice none 0 0]) (by kernel_rfl) (by kernel_rfl) rfl (by repeat' (first | exact trivial | refine ⟨fun _ => by first | rfl | assumption | exact one_if (by assumption), ?_⟩ | refine ⟨fun ⟨_, h⟩ => by simp at h, ?_⟩)) rfl) ?_
    refine l_e rfl (fun K hK => ?_)
    refine e_storeA hS2 rfl rfl (by kernel_rfl) (by repeat' (first | exact trivial | refine ⟨by first | rfl | assumption | exact one_if (by assumption), ?_⟩)) (i := 0) rfl rfl (fun w7 (hS7 : St _ _ [.blk b2 (.cells #[.slice none 0 0, .slice none 0 0] 41)] _) => ?_)
    clear hS2
    refine hK _ _ ?_; clear hK K
    refine l_q rfl rfl (q_assignB rfl) ?_
    refine l_nil ?_
    refine hK6 _ _ ?_
    refine wp_ret ?_
    refine c_retCT (m := 2) rfl (by kernel_rfl) (by kernel_rfl) rfl (hS7.blk (i := 0) rfl) rfl rfl ?_
    have hSx8 := (hS7.drop.ow_nil 5 1).ow_nil 5 1
    
    exact ⟨_, _, rfl, ⟨⟨none, 0, [], none, 0, []⟩, false, rfl, by rw [hlast]; exact ⟨rfl, rfl⟩, rfl⟩, hSx8⟩
  ·
    have hc5b := hc5
    try simp only [decide_eq_true_eq, decide_eq_false_iff_not, Bool.not_eq_true', Bool.not_eq_false', Bool.and_eq_true, Bool.or_eq_true, Int.not_lt, Int.not_le, ne_eq, Decidable.not_not] at hc5
    have hne : (flat ps).length ≠ 0 := by omega
    have hfp : 0 < ps.length := by
      cases hps : ps with
      | nil => rw [hps] at hne; exact absurd rfl hne
      | cons q qs => simp
    refine wp_skip ?_
    refine hK3 _ _ ?_
    refine wp_seq_k (fun K9 hK9 => ?_)
    refine wp_region_lit ?_
    refine l_q rfl rfl (q_moveP rfl) ?_
    refine l_q rfl rfl (q_nilCheck rfl) ?_
    refine l_q rfl rfl (q_fieldAddr (ft := 105) (o := 0) rfl (by kernel_rfl)) ?_
    refine l_q rfl rfl (q_load1 rfl (by kernel_rfl) (cell_blk (hS2.base _ _ hTR.blk) rfl)) ?_
    refine l_q rfl rfl (q_lenSl (e := 111) rfl (by kernel_rfl)) ?_
    refine l_q rfl rfl (q_assignI rfl) ?_
    refine l_q rfl rfl (q_assignI rfl) ?_
    refine l_nil ?_
    refine hK9 _ _ ?_
    refine wp_seq_k (fun K10 hK10 => ?_)
    refine wp_seq_k (fun K11 hK11 => ?_)
    refine wp_region_lit ?_
    refine l_q rfl rfl (q_moveS rfl) ?_
    refine l_q rfl rfl (q_lenSl (e := 5) rfl (by kernel_rfl)) ?_
    refine l_q rfl rfl (q_gtr rfl rfl) ?_
    refine l_nil ?_
    refine hK11 _ _ ?_
    refine c_cond rfl (fun hc12 => ?_) (fun hc12 => ?_)
    ·
      have hc12b := hc12
      try simp only [decide_eq_true_eq, decide_eq_false_iff_not, Bool.not_eq_true', Bool.not_eq_false', Bool.and_eq_true, Bool.or_eq_true, Int.not_lt, Int.not_le, ne_eq, Decidable.not_not] at hc12
      have hto : to ≠ [] := by rintro rfl; simp at hc12
      refine wp_region_lit ?_
      refine l_q rfl rfl (q_moveP rfl) ?_
      refine l_q rfl rfl (q_moveS rfl) ?_
      refine l_e rfl (fun K hK => ?_)
      refine e_call (by kernel_rfl) (find_ok k ps to htb (by first | omega | (simp only [List.length_append, List.length_map, List.length_cons, List.length_nil, List.length_take, List.length_drop, List.length_set] <;> omega)) (by first | omega | (simp only [List.length_append, List.length_map, List.length_cons, List.length_nil, List.length_take, List.length_drop, List.length_set] <;> omega)) _ _ _ _ _ _ (hS2.base _ _ hTR.blk) (fun p hp => (hTR.pgs p hp).mono hS2.base) hTR.ok.pok (hTR.rows.mono hS2.base) (hTo.mono hS2.base)) rfl (after_R hS2 (fun v13 w13 hv13 hS13 => ?_))
      clear hS2
      obtain ⟨i1, k1, fd1, rfl, hw1⟩ := hv13
      refine hK _ _ ?_; clear hK K
      refine l_q rfl rfl (q_move rfl) ?_
      refine l_q rfl rfl (q_extract rfl rfl) ?_
      refine l_q rfl rfl (q_extract rfl rfl) ?_
      refine l_q rfl rfl (q_extract rfl rfl) ?_
      refine l_q rfl rfl (q_assignI rfl) ?_
      refine l_q rfl rfl (q_assignI rfl) ?_
      refine l_nil ?_
      refine hK10 _ _ ?_
      refine wp_seq_k (fun K14 hK14 => ?_)
      refine wp_seq_k (fun K15 hK15 => ?_)
      refine wp_region_lit ?_
      refine l_q rfl rfl (q_moveI rfl) ?_
      refine l_q rfl rfl (q_eql rfl rfl) ?_
      refine l_nil ?_
      refine hK15 _ _ ?_
      refine c_cond rfl (fun hc16 => ?_) (fun hc16 => ?_)
      ·
        have hc16b := hc16
        try simp only [decide_eq_true_eq, decide_eq_false_iff_not, Bool.not_eq_true', Bool.not_eq_false', Bool.and_eq_true, Bool.or_eq_true, Int.not_lt, Int.not_le, ne_eq, Decidable.not_not] at hc16
        refine wp_seq_k (fun K17 hK17 => ?_)
        refine wp_seq_k (fun K18 hK18 => ?_)
        refine wp_region_lit ?_
        refine l_q rfl rfl (q_moveI rfl) ?_
        refine l_q rfl rfl (q_eql rfl rfl) ?_
        refine l_nil ?_
        refine hK18 _ _ ?_
        refine c_cond rfl (fun hc19 => ?_) (fun hc19 => ?_)
        ·
          have hc19b := hc19
          try simp only [decide_eq_true_eq, decide_eq_false_iff_not, Bool.not_eq_true', Bool.not_eq_false', Bool.and_eq_true, Bool.or_eq_true, Int.not_lt, Int.not_le, ne_eq, Decidable.not_not] at hc19
          have hlast : lastB (ab ps) to = none := by
            rcases hw1.last (fun p hp => (hTR.ok.pok.few p hp).1) hto with ⟨_, _, h⟩ | ⟨_, h, _⟩ | ⟨h, _⟩
            · exact h
            · omega
            · omega
          refine wp_seq_k (fun K20 hK20 => ?_)
          refine wp_region_lit ?_
          refine l_q rfl rfl (q_build (ps := [(0, 1), (1, 1)]) (zv := .agg #[.slice none 0 0, .slice none 0 0]) (by kernel_rfl) (by kernel_rfl) rfl (by repeat' (first | exact trivial | refine ⟨fun _ => by first | rfl | assumption | exact one_if (by assumption), ?_⟩ | refine ⟨fun ⟨_, h⟩ => by simp at h, ?_⟩)) rfl) ?_
          refine l_e rfl (fun K hK => ?_)
          refine e_storeA hS13 rfl rfl (by kernel_rfl) (by repeat' (first | exact trivial | refine ⟨by first | rfl | assumption | exact one_if (by assumption), ?_⟩)) (i := 0) rfl rfl (fun w21 (hS21 : St _ _ [.blk b2 (.cells #[.slice none 0 0, .slice none 0 0] 41)] _) => ?_)
          clear hS13
          refine hK _ _ ?_; clear hK K
          refine l_q rfl rfl (q_assignB rfl) ?_
          refine l_nil ?_
          refine hK20 _ _ ?_
          refine wp_ret ?_
          refine c_retCT (m := 2) rfl (by kernel_rfl) (by kernel_rfl) rfl (hS21.blk (i := 0) rfl) rfl rfl ?_
          have hSx22 := (hS21.drop.ow_nil 5 1).ow_nil 5 1
          
          exact ⟨_, _, rfl, ⟨⟨none, 0, [], none, 0, []⟩, false, rfl, by rw [hlast]; exact ⟨rfl, rfl⟩, rfl⟩, hSx22⟩
        ·
          have hc19b := hc19
          try simp only [decide_eq_true_eq, decide_eq_false_iff_not, Bool.not_eq_true', Bool.not_eq_false', Bool.and_eq_true, Bool.or_eq_true, Int.not_lt, Int.not_le, ne_eq, Decidable.not_not] at hc19
          obtain ⟨q, z, hq, hq0, hz, hlast⟩ : ∃ q z, ps[i1 - 1]? = some q ∧ 0 < q.es.length ∧ q.es[q.es.length - 1]? = some z ∧ lastB (ab ps) to = some z.kv := by
            rcases hw1.last (fun p hp => (hTR.ok.pok.few p hp).1) hto with ⟨_, h, _⟩ | ⟨_, _, h⟩ | ⟨h, _⟩
            · omega
            · exact h
            · omega
          have hpf_q := hTR.ok.pok.few _ (List.mem_of_getElem? hq)
          have hpl_q := lt_of_at hq
          have hpg_q := hTR.pgs _ (List.mem_of_getElem? hq)
          have hal_z := lt_of_at hz
          have hae_z := ent_at hTR.ok hq hz
          refine wp_skip ?_
          refine hK17 _ _ ?_
          refine wp_seq_k (fun K23 hK23 => ?_)
          refine wp_region_lit ?_
          refine l_q rfl rfl (q_moveI rfl) ?_
          refine l_q rfl rfl (q_subx rfl rfl (by first | decide | omega) (by first | decide | omega)) ?_
          refine l_q rfl rfl (q_assignI rfl) ?_
          refine l_nil ?_
          refine hK23 _ _ ?_
          refine wp_region_lit ?_
          refine l_q rfl rfl (q_moveP rfl) ?_
          refine l_q rfl rfl (q_nilCheck rfl) ?_
          refine l_q rfl rfl (q_fieldAddr (ft := 105) (o := 0) rfl (by kernel_rfl)) ?_
          refine l_q rfl rfl (q_load1 rfl (by kernel_rfl) (cell_blk (hS13.base _ _ hTR.blk) rfl)) ?_
          refine l_q rfl rfl (q_moveI rfl) ?_
          refine l_q rfl rfl (q_ixG (e := 111) (m := 1) (j := (i1 - 1)) rfl rfl (by kernel_rfl) (by kernel_rfl) (by first | rfl | omega) (by omega) hTR.rows (by rw [rows_len (c := pg) (m := 1) (fun _ => rfl)]; first | omega | (simp only [List.length_append, List.length_map, List.length_cons, List.length_nil, List.length_take, List.length_drop, List.length_set] <;> omega))) ?_
          refine l_q rfl rfl (q_load1 rfl (by kernel_rfl) (SlG.cell (hTR.rows.mono hS13.base) (Gle.refl _) (row_at hq (c := pg) (m := 1) (fun _ => rfl) (j := 0) rfl))) ?_
          refine l_q rfl rfl (q_lenSl (e := 41) rfl (by kernel_rfl)) ?_
          refine l_q rfl rfl (q_assignI rfl) ?_
          refine l_nil ?_
          refine hK14 _ _ ?_
          refine wp_seq_k (fun K24 hK24 => ?_)
          refine wp_region_lit ?_
          refine l_q rfl rfl (q_moveP rfl) ?_
          refine l_q rfl rfl (q_nilCheck rfl) ?_
          refine l_q rfl rfl (q_fieldAddr (ft := 105) (o := 0) rfl (by kernel_rfl)) ?_
          refine l_q rfl rfl (q_load1 rfl (by kernel_rfl) (cell_blk (hS13.base _ _ hTR.blk) rfl)) ?_
          refine l_q rfl rfl (q_moveI rfl) ?_
          refine l_q rfl rfl (q_ixG (e := 111) (m := 1) (j := (i1 - 1)) rfl rfl (by kernel_rfl) (by kernel_rfl) (by first | rfl | omega) (by omega) hTR.rows (by rw [rows_len (c := pg) (m := 1) (fun _ => rfl)]; first | omega | (simp only [List.length_append, List.length_map, List.length_cons, List.length_nil, List.length_take, List.length_drop, List.length_set] <;> omega))) ?_
          refine l_q rfl rfl (q_load1 rfl (by kernel_rfl) (SlG.cell (hTR.rows.mono hS13.base) (Gle.refl _) (row_at hq (c := pg) (m := 1) (fun _ => rfl) (j := 0) rfl))) ?_
          refine l_q rfl rfl (q_moveI rfl) ?_
          refine l_q rfl rfl (q_subx rfl rfl (by first | decide | omega) (by first | decide | omega)) ?_
          refine l_q rfl rfl (q_ixG (e := 41) (m := 2) (j := (q.es.length - 1)) rfl rfl (by kernel_rfl) (by kernel_rfl) (by first | rfl | omega) (by omega) hpg_q.1 (by rw [rows_len (c := en) (m := 2) (fun _ => rfl)]; first | omega | (simp only [List.length_append, List.length_map, List.length_cons, List.length_nil, List.length_take, List.length_drop, List.length_set] <;> omega))) ?_
          refine l_q rfl rfl (q_loadGA (m := 2) rfl (by kernel_rfl) (by kernel_rfl) (hpg_q.1.mono hS13.base) (row_take hz (c := en) (m := 2) (fun _ => rfl)) rfl (by decide)) ?_
          refine l_e rfl (fun K hK => ?_)
          refine e_call (by kernel_rfl) (copied_ok z _ (EOk.mono hae_z hS13.base)) rfl (after_N hS13 (fun v25 G25 w25 hv25 hS25 => ?_))
          clear hS13
          obtain ⟨c25, hck25, hcr25, rfl, rfl⟩ := hv25
          have hS26 : St _ _ [.ow 5 1 c25.ka c25.kb.length c25.kc (bv c25.kb), .ow 5 1 c25.ra c25.rb.length c25.rc (bv c25.rb), .blk b2 (.cells #[.slice none 0 0, .slice none 0 0] 41)] _ := hS25; clear hS25
          refine hK _ _ ?_; clear hK K
          refine l_e rfl (fun K hK => ?_)
          refine e_storeA hS26 rfl rfl (by kernel_rfl) (by repeat' (first | exact trivial | refine ⟨by first | rfl | assumption | exact one_if (by assumption), ?_⟩)) (i := 2) rfl rfl (fun w27 (hS27 : St _ _ [.ow 5 1 c25.ka c25.kb.length c25.kc (bv c25.kb), .ow 5 1 c25.ra c25.rb.length c25.rc (bv c25.rb), .blk b2 (.cells #[.slice c25.ka c25.kb.length c25.kc, .slice c25.ra c25.rb.length c25.rc] 41)] _) => ?_)
          clear hS26
          refine hK _ _ ?_; clear hK K
          refine l_q rfl rfl (q_assignB rfl) ?_
          refine l_nil ?_
          refine hK24 _ _ ?_
          refine wp_ret ?_
          refine c_retCT (m := 2) rfl (by kernel_rfl) (by kernel_rfl) rfl (hS27.blk (i := 2) rfl) rfl rfl ?_
          have hS28 : St _ _ [.ow 5 1 c25.ka c25.kb.length c25.kc (bv c25.kb), .ow 5 1 c25.ra c25.rb.length c25.rc (bv c25.rb)] _ := hS27.only 2; clear hS27
          exact ⟨_, _, rfl, ⟨c25, true, rfl, by rw [hlast]; exact ⟨rfl, hck25, hcr25⟩, rfl⟩, hS28⟩
      ·
        have hc16b := hc16
        try simp only [decide_eq_true_eq, decide_eq_false_iff_not, Bool.not_eq_true', Bool.not_eq_false', Bool.and_eq_true, Bool.or_eq_true, Int.not_lt, Int.not_le, ne_eq, Decidable.not_not] at hc16
        obtain ⟨hk0, q, z, hq, hq0, hz, hlast⟩ : 0 < k1 ∧ ∃ q z, ps[i1]? = some q ∧ k1 - 1 < q.es.length ∧ q.es[k1 - 1]? = some z ∧ lastB (ab ps) to = some z.kv := by
          rcases hw1.last (fun p hp => (hTR.ok.pok.few p hp).1) hto with ⟨h, _⟩ | ⟨h, _⟩ | h
          · omega
          · omega
          · exact h
        have hpf_q := hTR.ok.pok.few _ (List.mem_of_getElem? hq)
        have hpl_q := lt_of_at hq
        have hpg_q := hTR.pgs _ (List.mem_of_getElem? hq)
        have hal_z := lt_of_at hz
        have hae_z := ent_at hTR.ok hq hz
        refine wp_skip ?_
        refine hK14 _ _ ?_
        refine wp_seq_k (fun K29 hK29 => ?_)
        refine wp_region_lit ?_
        refine l_q rfl rfl (q_moveP rfl) ?_
        refine l_q rfl rfl (q_nilCheck rfl) ?_
        refine l_q rfl rfl (q_fieldAddr (ft := 105) (o := 0) rfl (by kernel_rfl)) ?_
        refine l_q rfl rfl (q_load1 rfl (by kernel_rfl) (cell_blk (hS13.base _ _ hTR.blk) rfl)) ?_
        refine l_q rfl rfl (q_moveI rfl) ?_
        refine l_q rfl rfl (q_ixG (e := 111) (m := 1) (j := i1) rfl rfl (by kernel_rfl) (by kernel_rfl) (by first | rfl | omega) (by omega) hTR.rows (by rw [rows_len (c := pg) (m := 1) (fun _ => rfl)]; first | omega | (simp only [List.length_append, List.length_map, List.length_cons, List.length_nil, List.length_take, List.length_drop, List.length_set] <;> omega))) ?_
        refine l_q rfl rfl (q_load1 rfl (by kernel_rfl) (SlG.cell (hTR.rows.mono hS13.base) (Gle.refl _) (row_at hq (c := pg) (m := 1) (fun _ => rfl) (j := 0) rfl))) ?_
        refine l_q rfl rfl (q_moveI rfl) ?_
        refine l_q rfl rfl (q_subx rfl rfl (by first | decide | omega) (by first | decide | omega)) ?_
        refine l_q rfl rfl (q_ixG (e := 41) (m := 2) (j := (k1 - 1)) rfl rfl (by kernel_rfl) (by kernel_rfl) (by first | rfl | omega) (by omega) hpg_q.1 (by rw [rows_len (c := en) (m := 2) (fun _ => rfl)]; first | omega | (simp only [List.length_append, List.length_map, List.length_cons, List.length_nil, List.length_take, List.length_drop, List.length_set] <;> omega))) ?_
        refine l_q rfl rfl (q_loadGA (m := 2) rfl (by kernel_rfl) (by kernel_rfl) (hpg_q.1.mono hS13.base) (row_take hz (c := en) (m := 2) (fun _ => rfl)) rfl (by decide)) ?_
        refine l_e rfl (fun K hK => ?_)
        refine e_call (by kernel_rfl) (copied_ok z _ (EOk.mono hae_z hS13.base)) rfl (after_N hS13 (fun v30 G30 w30 hv30 hS30 => ?_))
        clear hS13
        obtain ⟨c30, hck30, hcr30, rfl, rfl⟩ := hv30
        have hS31 : St _ _ [.ow 5 1 c30.ka c30.kb.length c30.kc (bv c30.kb), .ow 5 1 c30.ra c30.rb.length c30.rc (bv c30.rb), .blk b2 (.cells #[.slice none 0 0, .slice none 0 0] 41)] _ := hS30; clear hS30
        refine hK _ _ ?_; clear hK K
        refine l_e rfl (fun K hK => ?_)
        refine e_storeA hS31 rfl rfl (by kernel_rfl) (by repeat' (first | exact trivial | refine ⟨by first | rfl | assumption | exact one_if (by assumption), ?_⟩)) (i := 2) rfl rfl (fun w32 (hS32 : St _ _ [.ow 5 1 c30.ka c30.kb.length c30.kc (bv c30.kb), .ow 5 1 c30.ra c30.rb.length c30.rc (bv c30.rb), .blk b2 (.cells #[.slice c30.ka c30.kb.length c30.kc, .slice c30.ra c30.rb.length c30.rc] 41)] _) => ?_)
        clear hS31
        refine hK _ _ ?_; clear hK K
        refine l_q rfl rfl (q_assignB rfl) ?_
        refine l_nil ?_
        refine hK29 _ _ ?_
        refine wp_ret ?_
        refine c_retCT (m := 2) rfl (by kernel_rfl) (by kernel_rfl) rfl (hS32.blk (i := 2) rfl) rfl rfl ?_
        have hS33 : St _ _ [.ow 5 1 c30.ka c30.kb.length c30.kc (bv c30.kb), .ow 5 1 c30.ra c30.rb.length c30.rc (bv c30.rb)] _ := hS32.only 2; clear hS32
        exact ⟨_, _, rfl, ⟨c30, true, rfl, by rw [hlast]; exact ⟨rfl, hck30, hcr30⟩, rfl⟩, hS33⟩
    ·
      have hc12b := hc12
      try simp only [decide_eq_true_eq, decide_eq_false_iff_not, Bool.not_eq_true', Bool.not_eq_false', Bool.and_eq_true, Bool.or_eq_true, Int.not_lt, Int.not_le, ne_eq, Decidable.not_not] at hc12
      have hto : to = [] := List.eq_nil_of_length_eq_zero (by omega)
      refine wp_skip ?_
      refine hK10 _ _ ?_
      refine wp_seq_k (fun K34 hK34 => ?_)
      refine wp_seq_k (fun K35 hK35 => ?_)
      refine wp_region_lit ?_
      refine l_q rfl rfl (q_moveI rfl) ?_
      refine l_q rfl rfl (q_eql rfl rfl) ?_
      refine l_nil ?_
      refine hK35 _ _ ?_
      refine c_condT rfl (by decide) ?_
      refine wp_seq_k (fun K37 hK37 => ?_)
      refine wp_seq_k (fun K38 hK38 => ?_)
      refine wp_region_lit ?_
      refine l_q rfl rfl (q_moveI rfl) ?_
      refine l_q rfl rfl (q_eql rfl rfl) ?_
      refine l_nil ?_
      refine hK38 _ _ ?_
      refine c_cond rfl (fun hc39 => ?_) (fun hc39 => ?_)
      ·
        have hc39b := hc39
        try simp only [decide_eq_true_eq, decide_eq_false_iff_not, Bool.not_eq_true', Bool.not_eq_false', Bool.and_eq_true, Bool.or_eq_true, Int.not_lt, Int.not_le, ne_eq, Decidable.not_not] at hc39
        exact absurd (show (flat ps).length = 0 by rw [show ps = [] from List.eq_nil_of_length_eq_zero (by omega)]; rfl) hne
      ·
        have hc39b := hc39
        try simp only [decide_eq_true_eq, decide_eq_false_iff_not, Bool.not_eq_true', Bool.not_eq_false', Bool.and_eq_true, Bool.or_eq_true, Int.not_lt, Int.not_le, ne_eq, Decidable.not_not] at hc39
        obtain ⟨q, z, hq, hq0, hz, hlast0⟩ := last_page (A := ps) (by omega) (fun p hp => (hTR.ok.pok.few p hp).1)
        have hlast : lastB (ab ps) to = some z.kv := by unfold lastB; rw [if_pos hto]; exact hlast0
        have hpf_q := hTR.ok.pok.few _ (List.mem_of_getElem? hq)
        have hpl_q := lt_of_at hq
        have hpg_q := hTR.pgs _ (List.mem_of_getElem? hq)
        have hal_z := lt_of_at hz
        have hae_z := ent_at hTR.ok hq hz
        refine wp_skip ?_
        refine hK37 _ _ ?_
        refine wp_seq_k (fun K40 hK40 => ?_)
        refine wp_region_lit ?_
        refine l_q rfl rfl (q_moveI rfl) ?_
        refine l_q rfl rfl (q_subx rfl rfl (by first | decide | omega) (by first | decide | omega)) ?_
        refine l_q rfl rfl (q_assignI rfl) ?_
        refine l_nil ?_
        refine hK40 _ _ ?_
        refine wp_region_lit ?_
        refine l_q rfl rfl (q_moveP rfl) ?_
        refine l_q rfl rfl (q_nilCheck rfl) ?_
        refine l_q rfl rfl (q_fieldAddr (ft := 105) (o := 0) rfl (by kernel_rfl)) ?_
        refine l_q rfl rfl (q_load1 rfl (by kernel_rfl) (cell_blk (hS2.base _ _ hTR.blk) rfl)) ?_
        refine l_q rfl rfl (q_moveI rfl) ?_
        refine l_q rfl rfl (q_ixG (e := 111) (m := 1) (j := (ps.length - 1)) rfl rfl (by kernel_rfl) (by kernel_rfl) (by first | rfl | omega) (by omega) hTR.rows (by rw [rows_len (c := pg) (m := 1) (fun _ => rfl)]; first | omega | (simp only [List.length_append, List.length_map, List.length_cons, List.length_nil, List.length_take, List.length_drop, List.length_set] <;> omega))) ?_
        refine l_q rfl rfl (q_load1 rfl (by kernel_rfl) (SlG.cell (hTR.rows.mono hS2.base) (Gle.refl _) (row_at hq (c := pg) (m := 1) (fun _ => rfl) (j := 0) rfl))) ?_
        refine l_q rfl rfl (q_lenSl (e := 41) rfl (by kernel_rfl)) ?_
        refine l_q rfl rfl (q_assignI rfl) ?_
        refine l_nil ?_
        refine hK34 _ _ ?_
        refine wp_seq_k (fun K41 hK41 => ?_)
        refine wp_region_lit ?_
        refine l_q rfl rfl (q_moveP rfl) ?_
        refine l_q rfl rfl (q_nilCheck rfl) ?_
        refine l_q rfl rfl (q_fieldAddr (ft := 105) (o := 0) rfl (by kernel_rfl)) ?_
        refine l_q rfl rfl (q_load1 rfl (by kernel_rfl) (cell_blk (hS2.base _ _ hTR.blk) rfl)) ?_
        refine l_q rfl rfl (q_moveI rfl) ?_
        refine l_q rfl rfl (q_ixG (e := 111) (m := 1) (j := (ps.length - 1)) rfl rfl (by kernel_rfl) (by kernel_rfl) (by first | rfl | omega) (by omega) hTR.rows (by rw [rows_len (c := pg) (m := 1) (fun _ => rfl)]; first | omega | (simp only [List.length_append, List.length_map, List.length_cons, List.length_nil, List.length_take, List.length_drop, List.length_set] <;> omega))) ?_
        refine l_q rfl rfl (q_load1 rfl (by kernel_rfl) (SlG.cell (hTR.rows.mono hS2.base) (Gle.refl _) (row_at hq (c := pg) (m := 1) (fun _ => rfl) (j := 0) rfl))) ?_
        refine l_q rfl rfl (q_moveI rfl) ?_
        refine l_q rfl rfl (q_subx rfl rfl (by first | decide | omega) (by first | decide | omega)) ?_
        refine l_q rfl rfl (q_ixG (e := 41) (m := 2) (j := (q.es.length - 1)) rfl rfl (by kernel_rfl) (by kernel_rfl) (by first | rfl | omega) (by omega) hpg_q.1 (by rw [rows_len (c := en) (m := 2) (fun _ => rfl)]; first | omega | (simp only [List.length_append, List.length_map, List.length_cons, List.length_nil, List.length_take, List.length_drop, List.length_set] <;> omega))) ?_
        refine l_q rfl rfl (q_loadGA (m := 2) rfl (by kernel_rfl) (by kernel_rfl) (hpg_q.1.mono hS2.base) (row_take hz (c := en) (m := 2) (fun _ => rfl)) rfl (by decide)) ?_
        refine l_e rfl (fun K hK => ?_)
        refine e_call (by kernel_rfl) (copied_ok z _ (EOk.mono hae_z hS2.base)) rfl (after_N hS2 (fun v42 G42 w42 hv42 hS42 => ?_))
        clear hS2
        obtain ⟨c42, hck42, hcr42, rfl, rfl⟩ := hv42
        have hS43 : St _ _ [.ow 5 1 c42.ka c42.kb.length c42.kc (bv c42.kb), .ow 5 1 c42.ra c42.rb.length c42.rc (bv c42.rb), .blk b2 (.cells #[.slice none 0 0, .slice none 0 0] 41)] _ := hS42; clear hS42
        refine hK _ _ ?_; clear hK K
        refine l_e rfl (fun K hK => ?_)
        refine e_storeA hS43 rfl rfl (by kernel_rfl) (by repeat' (first | exact trivial | refine ⟨by first | rfl | assumption | exact one_if (by assumption), ?_⟩)) (i := 2) rfl rfl (fun w44 (hS44 : St _ _ [.ow 5 1 c42.ka c42.kb.length c42.kc (bv c42.kb), .ow 5 1 c42.ra c42.rb.length c42.rc (bv c42.rb), .blk b2 (.cells #[.slice c42.ka c42.kb.length c42.kc, .slice c42.ra c42.rb.length c42.rc] 41)] _) => ?_)
        clear hS43
        refine hK _ _ ?_; clear hK K
        refine l_q rfl rfl (q_assignB rfl) ?_
        refine l_nil ?_
        refine hK41 _ _ ?_
        refine wp_ret ?_
        refine c_retCT (m := 2) rfl (by kernel_rfl) (by kernel_rfl) rfl (hS44.blk (i := 2) rfl) rfl rfl ?_
        have hS45 : St _ _ [.ow 5 1 c42.ka c42.kb.length c42.kc (bv c42.kb), .ow 5 1 c42.ra c42.rb.length c42.rc (bv c42.rb)] _ := hS44.only 2; clear hS44
        exact ⟨_, _, rfl, ⟨c42, true, rfl, by rw [hlast]; exact ⟨rfl, hck42, hcr42⟩, rfl⟩, hS45⟩

end Go.Proofs.Ytmbbkliekgiolaa
