/- law01's live question; FaultNothing. -/
import Derived.Test.YtdlmcgflgdmjgaaDoorF8
set_option linter.unusedVariables false
set_option linter.unusedSimpArgs false
namespace Go.Proofs.YtdlmcgflgdmjgaaDoor
open Go.RowKit
theorem BOk.atI {x : BS} (h : BOk x) {i : Int} (h0 : 0 ≤ i) (hi : i < x.m) : ∃ r, r ∈ x.rows ∧ RowOk x.es x.ss x.k r ∧ x.vs[i.toNat]? = some r.v ∧ ∀ j u, r.cells[j]? = some u → x.ts[0 + i.toNat * 3 + j]? = some u := by
  obtain ⟨n, rfl⟩ := Int.eq_ofNat_of_zero_le h0
  exact h.at hi
theorem pool_er {w0 w : World} {D : Nat → Prop} {Γ : List Ch} {i : Nat} {bs : List Nat} {es : List (Value × Er)} {ss : List (Option Addr × List Value)} (h : St w0 D Γ w) (hi : Γ[i]? = some (.pool bs es ss)) {v : Value} {e : Er} (hm : (v, e) ∈ es) : ErIn (Ro w fun _ => False) w e v :=
  ((h.sat.get hi).1.1 _ hm).mono fun k hk => ⟨⟨((h.sat.get hi).2 k hk).2, id⟩, rfl⟩
theorem RowOk.small {es : List (Value × Er)} {ss : List (Option Addr × List Value)} {k : Nat} {r : Row} (h : RowOk es ss k r) (hk : k ≤ 14) : r.e.list.length ≤ 16384 ∧ r.e.deep ≤ 14 := by
  obtain ⟨_, _, _, _, h5, h6⟩ := h
  exact ⟨Nat.le_trans h5 (pow14 hk), Nat.le_trans h6 hk⟩
theorem has0 {e : Er} (h : e.Good) : e.has 0 = false := by
  rw [Er.has_eq, List.any_eq_false]
  intro q hq
  have := Er.list_ne h q hq
  simpa using this
theorem Join_r0 (v : Value) (hv : IsIf v) (w : World) : Calls Tryd.prog 17 #[v, .nilIface] w (PostR w fun r => r = v) := by
  cases hn : isNilB v with
  | true =>
    refine (join_l v .nilIface hv hn w).mono ?_
    rintro e w' ⟨r, G, rfl, ⟨rfl, rfl⟩, hS⟩
    rcases hv with rfl | ⟨t, u, rfl⟩
    · exact ⟨_, rfl, rfl, hS⟩
    · cases hn
  | false =>
    refine (join_r v .nilIface hv (.inl rfl) hn rfl w).mono ?_
    rintro e w' ⟨r, G, rfl, ⟨rfl, rfl⟩, hS⟩
    exact ⟨_, rfl, rfl, hS⟩
theorem Join_l0 (v : Value) (w : World) : Calls Tryd.prog 17 #[.nilIface, v] w (PostR w fun r => r = v) := by
  refine (join_l .nilIface v (.inl rfl) rfl w).mono ?_
  rintro e w' ⟨r, G, rfl, ⟨rfl, rfl⟩, hS⟩
  exact ⟨_, rfl, rfl, hS⟩
theorem Wrap_l0 (c a : Int) (w : World) : Calls Tryd.prog 16 #[.nilIface, .int .i64 c, .int .i64 a] w (PostR w fun r => r = .nilIface) := by
  refine (wrap_nil .nilIface c a (.inl rfl) rfl w).mono ?_
  rintro e w' ⟨r, G, rfl, ⟨rfl, rfl⟩, hS⟩
  exact ⟨_, rfl, rfl, hS⟩
theorem New_0 (a : Int) (w : World) : Calls Tryd.prog 23 #[.int .i64 0, .int .i64 a] w (PostR w fun r => r = .nilIface) := by
  refine (new_nil 0 a (decide_eq_true rfl) w).mono ?_
  rintro e w' ⟨r, G, rfl, ⟨rfl, rfl⟩, hS⟩
  exact ⟨_, rfl, rfl, hS⟩
/-- Code and At of any error. -/
def cod (e : Er) : Int := match e.first with | some q => q.1 | none => 0
def plc (e : Er) : Int := match e.first with | some q => q.2 | none => -1
theorem first_none {e : Er} (hg : e.Good) (hn : e.isNil = true) : e.first = none := by rw [Er.first_eq, (Er.list_nil hg).2 hn]; rfl
theorem Code_ok (e : Er) (hg : e.Good) (v : Value) (w : World) (hl : LaidV w) (hE : ErIn (Ro w fun _ => False) w e v) : Calls Tryd.prog 22 #[v] w (PostR w fun r => r = .int .i64 (cod e)) := by
  cases hn : e.isNil with
  | true =>
    have h0 : cod e = 0 := by rw [cod, first_none hg hn]
    rw [h0]
    cases e with
    | nil => obtain rfl : v = .nilIface := hE; exact Code_nil w
    | flt c a u => cases hn
    | jn x y => cases hn
  | false =>
    obtain ⟨eb, c, a, uv, h1, h2, h3, h4⟩ := ErIn.fp hg hn hE
    have h0 : cod e = c := by rw [cod, h1]
    rw [h0]; exact Code_some e hg v eb c a uv w hl h4 h2 h3
theorem At_ok (e : Er) (hg : e.Good) (v : Value) (w : World) (hl : LaidV w) (hE : ErIn (Ro w fun _ => False) w e v) : Calls Tryd.prog 18 #[v] w (PostR w fun r => r = .int .i64 (plc e)) := by
  cases hn : e.isNil with
  | true =>
    have h0 : plc e = -1 := by rw [plc, first_none hg hn]
    rw [h0]
    cases e with
    | nil => obtain rfl : v = .nilIface := hE; exact At_nil w
    | flt c a u => cases hn
    | jn x y => cases hn
  | false =>
    obtain ⟨eb, c, a, uv, h1, h2, h3, h4⟩ := ErIn.fp hg hn hE
    have h0 : plc e = a := by rw [plc, h1]
    rw [h0]; exact At_some e hg v eb c a uv w hl h4 h2 h3
attribute [local irreducible] Oper.wp Sem.run Code.wp wpList wpAnyO callFunc execOp Calls

set_option maxRecDepth 100000 in
theorem alive_ok (w : World) (hl : LaidV w) : Calls Tryd.prog 19 #[] w (PostR w fun v => v = .bool true) := by
  have hS := St.start w
  refine c_enter Tryd.func19 rfl rfl rfl ?_
  refine wp_seq_k (fun K1 hK1 => ?_)
  refine wp_region_lit ?_
  first | refine l_q rfl rfl (q_assignB rfl) ?_ | refine l_q rfl rfl (q_assign rfl) ?_
  refine l_nil ?_
  refine hK1 _ _ ?_
  refine wp_seq_k (fun K2 hK2 => ?_)
  refine wp_region_lit ?_
  refine l_e rfl (fun K hK => ?_)
  refine e_call (by kernel_rfl) (new_flt 7 3 rfl _) rfl (after_N hS (fun v3 G3 w3 hv3 hS3 => ?_))
  clear hS; obtain ⟨b1, rfl, rfl⟩ := hv3
  refine hK _ _ ?_; clear hK K
  refine l_e rfl (fun K hK => ?_)
  refine e_call (by kernel_rfl) (wrap_flt (fV b1) 9 5 (.inr ⟨_, _, rfl⟩) rfl rfl _) rfl (after_N hS3 (fun v4 G4 w4 hv4 hS4 => ?_))
  clear hS3; obtain ⟨b2, rfl, rfl⟩ := hv4
  refine hK _ _ ?_; clear hK K
  refine l_q rfl rfl (q_assign rfl) ?_
  refine l_nil ?_
  refine hK2 _ _ ?_
  refine wp_seq_k (fun K5 hK5 => ?_)
  refine wp_region_lit ?_
  refine l_q rfl rfl (q_move rfl) ?_
  refine l_e rfl (fun K hK => ?_)
  refine e_call (by kernel_rfl) (Codes_ok (Er.flt 9 5 (.flt 7 3 .nil)) _ _ (by first | decide | omega) (hl.keep id hS4) ⟨b2, fV b1, rfl, Ro.ofR hS4 (i := 0) rfl rfl, hS4.blk (i := 0) rfl, b1, .nilIface, rfl, Ro.ofR hS4 (i := 1) rfl rfl, hS4.blk (i := 1) rfl, rfl⟩) rfl (after_N hS4 (fun v6 G6 w6 hv6 hS6 => ?_))
  clear hS4; subst hv6; obtain ⟨qa, qc, rfl⟩ := own_slice (hS6.sl (i := 0) rfl)
  refine hK _ _ ?_; clear hK K
  first | refine l_q rfl rfl (q_assignS rfl) ?_ | refine l_q rfl rfl (q_assign rfl) ?_
  refine l_nil ?_
  refine hK5 _ _ ?_
  refine wp_seq_k (fun K7 hK7 => ?_)
  refine wp_region_lit ?_
  refine l_q rfl rfl (q_move rfl) ?_
  refine l_e rfl (fun K hK => ?_)
  refine e_call (by kernel_rfl) (Code_ok (Er.flt 9 5 (.flt 7 3 .nil)) ⟨by decide, by decide, trivial⟩ _ _ (hl.keep id hS6) ⟨b2, fV b1, rfl, Ro.ofR hS6 (i := 1) rfl rfl, hS6.blk (i := 1) rfl, b1, .nilIface, rfl, Ro.ofR hS6 (i := 2) rfl rfl, hS6.blk (i := 2) rfl, rfl⟩) rfl (after_R hS6 (fun v8 w8 hv8 hS8 => ?_))
  clear hS6; replace hv8 := hv8.symm; subst hv8
  refine hK _ _ ?_; clear hK K
  refine l_q rfl rfl (q_eql rfl rfl) ?_
  first | refine l_q rfl rfl (q_moveB rfl) ?_ | refine l_q rfl rfl (q_move rfl) ?_
  refine l_on rfl rfl rfl ?_
  refine l_q rfl rfl (q_move rfl) ?_
  refine l_on rfl rfl rfl ?_
  refine l_e rfl (fun K hK => ?_)
  refine e_call (by kernel_rfl) (At_ok (Er.flt 9 5 (.flt 7 3 .nil)) ⟨by decide, by decide, trivial⟩ _ _ (hl.keep id hS8) ⟨b2, fV b1, rfl, Ro.ofR hS8 (i := 1) rfl rfl, hS8.blk (i := 1) rfl, b1, .nilIface, rfl, Ro.ofR hS8 (i := 2) rfl rfl, hS8.blk (i := 2) rfl, rfl⟩) rfl (after_R hS8 (fun v9 w9 hv9 hS9 => ?_))
  clear hS8; replace hv9 := hv9.symm; subst hv9
  refine hK _ _ ?_; clear hK K
  refine l_on rfl rfl rfl ?_
  refine l_q rfl rfl (q_eql rfl rfl) ?_
  refine l_q rfl rfl (q_pickT rfl rfl rfl) ?_
  first | refine l_q rfl rfl (q_moveB rfl) ?_ | refine l_q rfl rfl (q_move rfl) ?_
  refine l_on rfl rfl rfl ?_
  first | refine l_q rfl rfl (q_moveS rfl) ?_ | refine l_q rfl rfl (q_move rfl) ?_
  refine l_on rfl rfl rfl ?_
  refine l_q rfl rfl (q_lenSl (e := 23) rfl (by kernel_rfl)) ?_
  refine l_on rfl rfl rfl ?_
  refine l_q rfl rfl (q_eql rfl rfl) ?_
  refine l_q rfl rfl (q_pickT rfl rfl rfl) ?_
  first | refine l_q rfl rfl (q_moveB rfl) ?_ | refine l_q rfl rfl (q_move rfl) ?_
  obtain ⟨qg, qd, hq⟩ := own_some (hS9.sl (i := 0) rfl) (by decide); obtain ⟨rfl, rfl⟩ : qa = some ⟨qg, 0, none⟩ ∧ qc = qd := by injection hq with h1 h2 h3; exact ⟨h1, h3⟩
  refine l_on rfl rfl rfl ?_
  first | refine l_q rfl rfl (q_moveS rfl) ?_ | refine l_q rfl rfl (q_move rfl) ?_
  refine l_on rfl rfl rfl ?_
  refine l_q rfl rfl (q_indexAddr (e := 23) (m := 1) rfl rfl (by kernel_rfl) (by kernel_rfl) (by first | decide | omega) (by first | decide | omega)) ?_
  refine l_on rfl rfl rfl ?_
  refine l_q rfl rfl (q_load1 rfl (by kernel_rfl) (own_cellI (hS9.sl (i := 0) rfl) rfl)) ?_
  refine l_on rfl rfl rfl ?_
  refine l_q rfl rfl (q_eql rfl rfl) ?_
  refine l_q rfl rfl (q_pickT rfl rfl rfl) ?_
  first | refine l_q rfl rfl (q_moveB rfl) ?_ | refine l_q rfl rfl (q_move rfl) ?_
  refine l_on rfl rfl rfl ?_
  refine l_q rfl rfl (q_move rfl) ?_
  refine l_on rfl rfl rfl ?_
  refine l_e rfl (fun K hK => ?_)
  refine e_call (by kernel_rfl) (Has_ok 7 (Er.flt 9 5 (.flt 7 3 .nil)) _ _ ⟨by decide, by decide, trivial⟩ (hl.keep id hS9) ⟨b2, fV b1, rfl, Ro.ofR hS9 (i := 1) rfl rfl, hS9.blk (i := 1) rfl, b1, .nilIface, rfl, Ro.ofR hS9 (i := 2) rfl rfl, hS9.blk (i := 2) rfl, rfl⟩) rfl (after_R hS9 (fun v10 w10 hv10 hS10 => ?_))
  clear hS9; replace hv10 := hv10.symm; subst hv10
  refine hK _ _ ?_; clear hK K
  refine l_q rfl rfl (q_pickT rfl rfl rfl) ?_
  first | refine l_q rfl rfl (q_moveB rfl) ?_ | refine l_q rfl rfl (q_move rfl) ?_
  refine l_on rfl rfl rfl ?_
  refine l_e rfl (fun K hK => ?_)
  refine e_call (by kernel_rfl) (Code_nil _) rfl (after_R hS10 (fun v11 w11 hv11 hS11 => ?_))
  clear hS10; replace hv11 := hv11.symm; subst hv11
  refine hK _ _ ?_; clear hK K
  refine l_on rfl rfl rfl ?_
  refine l_q rfl rfl (q_eql rfl rfl) ?_
  refine l_q rfl rfl (q_pickT rfl rfl rfl) ?_
  first | refine l_q rfl rfl (q_assignB rfl) ?_ | refine l_q rfl rfl (q_assign rfl) ?_
  refine l_nil ?_
  refine hK7 _ _ ?_
  refine wp_ret ?_
  refine c_ret1 rfl rfl ?_
  exact ⟨_, rfl, rfl, hS11.drop⟩

set_option maxRecDepth 100000 in
theorem nothing_ok (sa : Option Addr) (sl sc : Nat) (c a : Int) (w : World) (hl : LaidV w) (hA : ActsR w sa sl) : Calls Tryd.prog 5 #[.slice sa sl sc, .int .i64 c, .int .i64 a] w (PostR w fun v => v = .bool true) := by
  have hS := St.start w
  refine c_enter Tryd.func5 rfl rfl rfl ?_
  refine wp_seq_k (fun K1 hK1 => ?_)
  refine wp_region_lit ?_
  first | refine l_q rfl rfl (q_assignB rfl) ?_ | refine l_q rfl rfl (q_assign rfl) ?_
  refine l_nil ?_
  refine hK1 _ _ ?_
  refine wp_seq_k (fun K2 hK2 => ?_)
  refine wp_region_lit ?_
  first | refine l_q rfl rfl (q_moveS rfl) ?_ | refine l_q rfl rfl (q_move rfl) ?_
  refine l_e rfl (fun K hK => ?_)
  refine e_call (by kernel_rfl) (built_ok sa sl sc _ hA) rfl (after_N hS (fun v3 G3 w3 hv3 hS3 => ?_))
  clear hS; obtain ⟨⟨k, m, ga, ac, gt, tc, bs, es, ss, vs, ts, rows⟩, hB, hk14, rfl, rfl⟩ := hv3
  have hm1 := hB.pos; have hm2 := hB.le; dsimp only [bG] at hS3 hm1 hm2 hk14; dsimp only
  have hS : St w (fun _ => False) [.pool bs es ss, .sl 29 1 (.slice (some ⟨ga, 0, none⟩) m ac) m vs, .sl 46 3 (.slice (some ⟨gt, 0, none⟩) m tc) m ts] w3 := hS3; clear hS3
  refine hK _ _ ?_; clear hK K
  refine l_q rfl rfl (q_move rfl) ?_
  refine l_q rfl rfl (q_extract rfl rfl) ?_
  refine l_q rfl rfl (q_extract rfl rfl) ?_
  first | refine l_q rfl rfl (q_assignS rfl) ?_ | refine l_q rfl rfl (q_assign rfl) ?_
  first | refine l_q rfl rfl (q_assignS rfl) ?_ | refine l_q rfl rfl (q_assign rfl) ?_
  refine l_nil ?_
  refine hK2 _ _ ?_
  refine wp_seq_k (fun K4 hK4 => ?_)
  refine wp_region_lit ?_
  obtain ⟨r, hr, hR, hrv, hrt⟩ := hB.atI (i := (m : Int) - 1) (by omega) (by (show (m : Int) - 1 < (m : Int)); omega); obtain ⟨hr1, hr2, hr3, hr4, hr5, hr6⟩ := id hR; obtain ⟨hr7, hr8⟩ := hR.small hk14; dsimp only at hr1 hr2 hr3 hr7 hr8
  first | refine l_q rfl rfl (q_moveS rfl) ?_ | refine l_q rfl rfl (q_move rfl) ?_
  first | refine l_q rfl rfl (q_moveS rfl) ?_ | refine l_q rfl rfl (q_move rfl) ?_
  refine l_q rfl rfl (q_lenSl (e := 29) rfl (by kernel_rfl)) ?_
  first | refine l_q rfl rfl (q_subx rfl rfl (by first | decide | omega) (by first | decide | omega)) ?_ | refine l_q rfl rfl (q_sub rfl rfl) ?_
  refine l_q rfl rfl (q_indexAddr (e := 29) (m := 1) rfl rfl (by kernel_rfl) (by kernel_rfl) (by first | decide | omega) (by first | decide | omega)) ?_
  refine l_q rfl rfl (q_load1 rfl (by kernel_rfl) (own_cellI (hS.sl (i := 1) rfl) hrv)) ?_
  refine l_q rfl rfl (q_assign rfl) ?_
  refine l_nil ?_
  refine hK4 _ _ ?_
  refine wp_seq_k (fun K5 hK5 => ?_)
  refine wp_region_lit ?_
  refine l_q rfl rfl (q_move rfl) ?_
  refine l_e rfl (fun K hK => ?_)
  refine e_call (by kernel_rfl) (Join_r0 _ ((pool_er hS (i := 0) rfl hr1)).isIf _) rfl (after_R hS (fun v6 w6 hv6 hS6 => ?_))
  clear hS; replace hv6 := hv6.symm; subst hv6
  refine hK _ _ ?_; clear hK K
  refine l_e rfl (fun K hK => ?_)
  refine e_call (by kernel_rfl) (Codes_ok r.e _ _ (by first | decide | omega) (hl.keep id hS6) (pool_er hS6 (i := 0) rfl hr1)) rfl (after_N hS6 (fun v7 G7 w7 hv7 hS7 => ?_))
  clear hS6; subst hv7; obtain ⟨pa, pc, rfl⟩ := own_slice (hS7.sl (i := 0) rfl)
  refine hK _ _ ?_; clear hK K
  first | refine l_q rfl rfl (q_assignS rfl) ?_ | refine l_q rfl rfl (q_assign rfl) ?_
  refine l_nil ?_
  refine hK5 _ _ ?_
  refine wp_seq_k (fun K8 hK8 => ?_)
  refine wp_region_lit ?_
  refine l_q rfl rfl (q_move rfl) ?_
  refine l_e rfl (fun K hK => ?_)
  refine e_call (by kernel_rfl) (Join_l0 _ _) rfl (after_R hS7 (fun v9 w9 hv9 hS9 => ?_))
  clear hS7; replace hv9 := hv9.symm; subst hv9
  refine hK _ _ ?_; clear hK K
  refine l_e rfl (fun K hK => ?_)
  refine e_call (by kernel_rfl) (Codes_ok r.e _ _ (by first | decide | omega) (hl.keep id hS9) (pool_er hS9 (i := 1) rfl hr1)) rfl (after_N hS9 (fun v10 G10 w10 hv10 hS10 => ?_))
  clear hS9; subst hv10; obtain ⟨qa, qc, rfl⟩ := own_slice (hS10.sl (i := 0) rfl)
  refine hK _ _ ?_; clear hK K
  first | refine l_q rfl rfl (q_assignS rfl) ?_ | refine l_q rfl rfl (q_assign rfl) ?_
  refine l_nil ?_
  refine hK8 _ _ ?_
  refine wp_seq_k (fun K11 hK11 => ?_)
  refine wp_region_lit ?_
  refine l_q rfl rfl (q_move rfl) ?_
  refine l_e rfl (fun K hK => ?_)
  refine e_call (by kernel_rfl) (Codes_ok r.e _ _ (by first | decide | omega) (hl.keep id hS10) (pool_er hS10 (i := 2) rfl hr1)) rfl (after_N hS10 (fun v12 G12 w12 hv12 hS12 => ?_))
  clear hS10; subst hv12; obtain ⟨sa, sc, rfl⟩ := own_slice (hS12.sl (i := 0) rfl)
  refine hK _ _ ?_; clear hK K
  refine l_q rfl rfl (q_lenSl (e := 23) rfl (by kernel_rfl)) ?_
  first | refine l_q rfl rfl (q_assignI rfl) ?_ | refine l_q rfl rfl (q_assign rfl) ?_
  refine l_nil ?_
  refine hK11 _ _ ?_
  refine wp_seq_k (fun K13 hK13 => ?_)
  refine wp_region_lit ?_
  refine l_e rfl (fun K hK => ?_)
  refine e_call (by kernel_rfl) (alive_ok _ (hl.keep id hS12)) rfl (after_R hS12 (fun v14 w14 hv14 hS14 => ?_))
  clear hS12; replace hv14 := hv14.symm; subst hv14
  refine hK _ _ ?_; clear hK K
  first | refine l_q rfl rfl (q_moveB rfl) ?_ | refine l_q rfl rfl (q_move rfl) ?_
  refine l_on rfl rfl rfl ?_
  first | refine l_q rfl rfl (q_moveI rfl) ?_ | refine l_q rfl rfl (q_move rfl) ?_
  refine l_on rfl rfl rfl ?_
  first | refine l_q rfl rfl (q_moveI rfl) ?_ | refine l_q rfl rfl (q_move rfl) ?_
  refine l_on rfl rfl rfl ?_
  refine l_e rfl (fun K hK => ?_)
  refine e_call (by kernel_rfl) (Wrap_l0 _ _ _) rfl (after_R hS14 (fun v15 w15 hv15 hS15 => ?_))
  clear hS14; replace hv15 := hv15.symm; subst hv15
  refine hK _ _ ?_; clear hK K
  refine l_on rfl rfl rfl ?_
  first | refine l_q rfl rfl (q_ieq0 rfl (by kernel_rfl)) ?_ | refine l_q rfl rfl (q_ieq1 rfl (by kernel_rfl)) ?_ | refine l_q rfl rfl (q_ieq rfl (by assumption) (by kernel_rfl)) ?_
  refine l_q rfl rfl (q_pickT rfl rfl rfl) ?_
  first | refine l_q rfl rfl (q_moveB rfl) ?_ | refine l_q rfl rfl (q_move rfl) ?_
  refine l_on rfl rfl rfl ?_
  refine l_e rfl (fun K hK => ?_)
  refine e_call (by kernel_rfl) (Join_l0 _ _) rfl (after_R hS15 (fun v16 w16 hv16 hS16 => ?_))
  clear hS15; replace hv16 := hv16.symm; subst hv16
  refine hK _ _ ?_; clear hK K
  refine l_on rfl rfl rfl ?_
  first | refine l_q rfl rfl (q_ieq0 rfl (by kernel_rfl)) ?_ | refine l_q rfl rfl (q_ieq1 rfl (by kernel_rfl)) ?_ | refine l_q rfl rfl (q_ieq rfl (by assumption) (by kernel_rfl)) ?_
  refine l_q rfl rfl (q_pickT rfl rfl rfl) ?_
  first | refine l_q rfl rfl (q_moveB rfl) ?_ | refine l_q rfl rfl (q_move rfl) ?_
  refine l_on rfl rfl rfl ?_
  first | refine l_q rfl rfl (q_moveI rfl) ?_ | refine l_q rfl rfl (q_move rfl) ?_
  refine l_on rfl rfl rfl ?_
  refine l_e rfl (fun K hK => ?_)
  refine e_call (by kernel_rfl) (New_0 _ _) rfl (after_R hS16 (fun v17 w17 hv17 hS17 => ?_))
  clear hS16; replace hv17 := hv17.symm; subst hv17
  refine hK _ _ ?_; clear hK K
  refine l_on rfl rfl rfl ?_
  first | refine l_q rfl rfl (q_ieq0 rfl (by kernel_rfl)) ?_ | refine l_q rfl rfl (q_ieq1 rfl (by kernel_rfl)) ?_ | refine l_q rfl rfl (q_ieq rfl (by assumption) (by kernel_rfl)) ?_
  refine l_q rfl rfl (q_pickT rfl rfl rfl) ?_
  first | refine l_q rfl rfl (q_moveB rfl) ?_ | refine l_q rfl rfl (q_move rfl) ?_
  refine l_on rfl rfl rfl ?_
  first | refine l_q rfl rfl (q_moveS rfl) ?_ | refine l_q rfl rfl (q_move rfl) ?_
  refine l_on rfl rfl rfl ?_
  refine l_q rfl rfl (q_lenSl (e := 23) rfl (by kernel_rfl)) ?_
  refine l_on rfl rfl rfl ?_
  first | refine l_q rfl rfl (q_moveI rfl) ?_ | refine l_q rfl rfl (q_move rfl) ?_
  refine l_on rfl rfl rfl ?_
  refine l_q rfl rfl (q_eql rfl rfl) ?_
  refine l_q rfl rfl (q_pickT rfl rfl rfl) ?_
  first | refine l_q rfl rfl (q_moveB rfl) ?_ | refine l_q rfl rfl (q_move rfl) ?_
  refine l_on rfl rfl (decide_eq_true rfl) ?_
  first | refine l_q rfl rfl (q_moveS rfl) ?_ | refine l_q rfl rfl (q_move rfl) ?_
  refine l_on rfl rfl (decide_eq_true rfl) ?_
  refine l_q rfl rfl (q_lenSl (e := 23) rfl (by kernel_rfl)) ?_
  refine l_on rfl rfl (decide_eq_true rfl) ?_
  first | refine l_q rfl rfl (q_moveI rfl) ?_ | refine l_q rfl rfl (q_move rfl) ?_
  refine l_on rfl rfl (decide_eq_true rfl) ?_
  refine l_q rfl rfl (q_eql rfl rfl) ?_
  refine l_q rfl rfl (q_pickT rfl (decide_eq_true rfl) rfl) ?_
  first | refine l_q rfl rfl (q_moveB rfl) ?_ | refine l_q rfl rfl (q_move rfl) ?_
  refine l_on rfl rfl (decide_eq_true rfl) ?_
  refine l_e rfl (fun K hK => ?_)
  refine e_call (by kernel_rfl) (At_nil _) rfl (after_R hS17 (fun v18 w18 hv18 hS18 => ?_))
  clear hS17; replace hv18 := hv18.symm; subst hv18
  refine hK _ _ ?_; clear hK K
  refine l_on rfl rfl (decide_eq_true rfl) ?_
  refine l_q rfl rfl (q_eql rfl rfl) ?_
  refine l_q rfl rfl (q_pickT rfl (decide_eq_true rfl) rfl) ?_
  first | refine l_q rfl rfl (q_moveB rfl) ?_ | refine l_q rfl rfl (q_move rfl) ?_
  refine l_on rfl rfl rfl ?_
  refine l_e rfl (fun K hK => ?_)
  refine e_call (by kernel_rfl) (Deep_ok .nil _ _ (by decide) rfl) rfl (after_R hS18 (fun v19 w19 hv19 hS19 => ?_))
  clear hS18; replace hv19 := hv19.symm; subst hv19
  refine hK _ _ ?_; clear hK K
  refine l_on rfl rfl rfl ?_
  refine l_q rfl rfl (q_eql rfl rfl) ?_
  refine l_q rfl rfl (q_pickT rfl rfl rfl) ?_
  first | refine l_q rfl rfl (q_moveB rfl) ?_ | refine l_q rfl rfl (q_move rfl) ?_
  refine l_on rfl rfl rfl ?_
  first | refine l_q rfl rfl (q_moveI rfl) ?_ | refine l_q rfl rfl (q_move rfl) ?_
  refine l_on rfl rfl rfl ?_
  refine l_e rfl (fun K hK => ?_)
  refine e_call (by kernel_rfl) (Has_nil _ _) rfl (after_R hS19 (fun v20 w20 hv20 hS20 => ?_))
  clear hS19; replace hv20 := hv20.symm; subst hv20
  refine hK _ _ ?_; clear hK K
  refine l_on rfl rfl rfl ?_
  refine l_q rfl rfl (q_not rfl) ?_
  refine l_q rfl rfl (q_pickT rfl rfl rfl) ?_
  first | refine l_q rfl rfl (q_moveB rfl) ?_ | refine l_q rfl rfl (q_move rfl) ?_
  refine l_on rfl rfl rfl ?_
  refine l_q rfl rfl (q_move rfl) ?_
  refine l_on rfl rfl rfl ?_
  refine l_e rfl (fun K hK => ?_)
  refine e_call (by kernel_rfl) (Has_ok 0 r.e _ _ hr4 (hl.keep id hS20) (pool_er hS20 (i := 3) rfl hr1)) rfl (after_R hS20 (fun v21 w21 hv21 hS21 => ?_))
  clear hS20; replace hv21 := hv21.symm; subst hv21
  refine hK _ _ ?_; clear hK K
  refine l_on rfl rfl rfl ?_
  refine l_q rfl rfl (q_not rfl) ?_
  refine l_q rfl rfl (q_pickT rfl rfl rfl) ?_
  first | refine l_q rfl rfl (q_assignB rfl) ?_ | refine l_q rfl rfl (q_assign rfl) ?_
  refine l_nil ?_
  refine hK13 _ _ ?_
  refine wp_ret ?_
  refine c_ret1 rfl rfl ?_
  exact ⟨_, rfl, (show _ = Value.bool (!(r.e.has 0)) from rfl).trans (by rw [has0 hr4]; rfl), hS21.drop⟩

end Go.Proofs.YtdlmcgflgdmjgaaDoor
