/- FaultKeeps: its walk. -/
import Derived.Test.YtdlmcgflgdmjgaaDoorF9
set_option linter.unusedVariables false
set_option linter.unusedSimpArgs false
namespace Go.Proofs.YtdlmcgflgdmjgaaDoor
open Go.RowKit
theorem q_quoN {P : Program} {n : Nat} {f : Nat → Value} {w : World} {d : Option Tmp} {x y : Operand} {ty T T' : TypeId} {pos : String} {aft : Array Edge} {g : Option (Nat × Bool)} {a b : Int} (hx : ev n f x = .int .i64 a) (hy : ev n f y = .int .i64 b) (h0 : 0 ≤ a) (h1 : 0 < b) (h2 : a ≤ 9223372036854775807) :
    Run P n f ⟨d, .binOp .quo T x y T', ty, pos, aft, g⟩ w (.int .i64 (a / b)) := by
  have h := q_quo (P := P) (w := w) (d := d) (T := T) (T' := T') (ty := ty) (pos := pos) (aft := aft) (g := g) hx hy (by omega)
  have e : IntKind.i64.wrap (a.tdiv b) = a / b := by
    rw [Int.tdiv_eq_ediv_of_nonneg h0]
    have h3 : 0 ≤ a / b := Int.ediv_nonneg h0 (by omega)
    have h4 : a / b ≤ a := Int.ediv_le_self b h0
    exact wrap_in (by omega) (by omega)
  rwa [e] at h
theorem own_cellE {w : World} {e : TypeId} {m gb cap : Nat} {i : Int} {v : Value} {xs : List Value} {u : Value} (h : w.ownsRow 0 e 1 v m xs) (hv : v = .slice (some ⟨gb, 0, none⟩) m cap) (hu : xs[i.toNat]? = some u) : w.cell? ⟨gb, 0 + i.toNat * 1, none⟩ = some u := by subst hv; exact own_cellI h hu
abbrev CO (ad : Option Addr) (cap : Nat) (e : Er) : Ch := .sl 23 1 (.slice ad e.list.length cap) e.list.length (e.list.map fun q => .int .i64 q.1)
theorem map_get {l : List (Int × Int)} {i : Nat} {q : Int × Int} (h : l[i]? = some q) : (l.map fun q => Value.int .i64 q.1)[i]? = some (.int .i64 q.1) := by rw [List.getElem?_map, h]; rfl
attribute [local irreducible] Oper.wp Sem.run Code.wp wpList wpAnyO callFunc execOp Calls

set_option maxHeartbeats 16000000 in
set_option maxRecDepth 100000 in
theorem keepsLaw_ok (sa : Option Addr) (sl sc : Nat) (c a : Int) (w : World) (hl : LaidV w) (hA : ActsR w sa sl) : Calls Tryd.prog 3 #[.slice sa sl sc, .int .i64 c, .int .i64 a] w (PostR w fun v => v = .bool true) := by
  have hS := St.start w
  refine c_enter Tryd.func3 rfl rfl rfl ?_
  refine wp_seq_k (fun K1 hK1 => ?_)
  refine wp_region_lit ?_
  first | refine l_q rfl rfl (q_assignB rfl) ?_ | refine l_q rfl rfl (q_assign rfl) ?_
  refine l_nil ?_
  refine hK1 _ _ ?_
  refine wp_seq_k (fun K2 hK2 => ?_)
  refine wp_region_lit ?_
  first | refine l_q rfl rfl (q_moveS rfl) ?_ | refine l_q rfl rfl (q_move rfl) ?_
  refine l_e rfl (fun K hK => ?_)
  refine e_call (by kernel_rfl) (built_ok sa sl sc _ hA) rfl (after_N hS (fun v3 G3 w3 hv3 hS3 => ?_))
  clear hS; obtain ⟨⟨k, m, ga, ac, gt, tc, bs, es, ss, vs, ts, rows⟩, hB, hk14, rfl, rfl⟩ := hv3
  have hm1 := hB.pos; have hm2 := hB.le; dsimp only [bG] at hS3 hm1 hm2 hk14; dsimp only
  have hS : St w (fun _ => False) [.pool bs es ss, .sl 29 1 (.slice (some ⟨ga, 0, none⟩) m ac) m vs, .sl 46 3 (.slice (some ⟨gt, 0, none⟩) m tc) m ts] w3 := hS3; clear hS3
  refine hK _ _ ?_; clear hK K
  refine l_q rfl rfl (q_move rfl) ?_
  refine l_q rfl rfl (q_extract rfl rfl) ?_
  refine l_q rfl rfl (q_extract rfl rfl) ?_
  first | refine l_q rfl rfl (q_assignS rfl) ?_ | refine l_q rfl rfl (q_assign rfl) ?_
  first | refine l_q rfl rfl (q_assignS rfl) ?_ | refine l_q rfl rfl (q_assign rfl) ?_
  refine l_nil ?_
  refine hK2 _ _ ?_
  refine wp_seq_k (fun K4 hK4 => ?_)
  refine wp_region_lit ?_
  obtain ⟨r, hr, hR, hrv, hrt⟩ := hB.atI (i := (m : Int) - 1) (by omega) (by (show (m : Int) - 1 < (m : Int)); omega); obtain ⟨hr1, hr2, hr3, hr4, hr5, hr6⟩ := id hR; obtain ⟨hr7, hr8⟩ := hR.small hk14; dsimp only at hr1 hr2 hr3 hr7 hr8
  first | refine l_q rfl rfl (q_moveS rfl) ?_ | refine l_q rfl rfl (q_move rfl) ?_
  first | refine l_q rfl rfl (q_moveS rfl) ?_ | refine l_q rfl rfl (q_move rfl) ?_
  refine l_q rfl rfl (q_lenSl (e := 29) rfl (by kernel_rfl)) ?_
  first | refine l_q rfl rfl (q_subx rfl rfl (by first | decide | omega) (by first | decide | omega)) ?_ | refine l_q rfl rfl (q_sub rfl rfl) ?_
  refine l_q rfl rfl (q_indexAddr (e := 29) (m := 1) rfl rfl (by kernel_rfl) (by kernel_rfl) (by first | decide | omega) (by first | decide | omega)) ?_
  refine l_q rfl rfl (q_load1 rfl (by kernel_rfl) (own_cellI (hS.sl (i := 1) rfl) hrv)) ?_
  refine l_q rfl rfl (q_assign rfl) ?_
  refine l_nil ?_
  refine hK4 _ _ ?_
  refine wp_seq_k (fun K5 hK5 => ?_)
  refine wp_region_lit ?_
  obtain ⟨s, hs, hSR, hsv, hst⟩ := hB.atI (i := (m : Int) / 2) (by omega) (by (show (m : Int) / 2 < (m : Int)); omega)
  obtain ⟨hs1, hs2, hs3, hs4, hs5, hs6⟩ := id hSR
  obtain ⟨hs7, hs8⟩ := hSR.small hk14
  dsimp only at hs1 hs2 hs3 hs7 hs8
  have hri := (pool_er hS (i := 0) rfl hr1).isIf
  have hrn := (pool_er hS (i := 0) rfl hr1).isNil
  first | refine l_q rfl rfl (q_moveS rfl) ?_ | refine l_q rfl rfl (q_move rfl) ?_
  first | refine l_q rfl rfl (q_moveS rfl) ?_ | refine l_q rfl rfl (q_move rfl) ?_
  refine l_q rfl rfl (q_lenSl (e := 29) rfl (by kernel_rfl)) ?_
  refine l_q rfl rfl (q_quoN rfl rfl (by omega) (by decide) (by omega)) ?_
  refine l_q rfl rfl (q_indexAddr (e := 29) (m := 1) rfl rfl (by kernel_rfl) (by kernel_rfl) (by first | decide | omega) (by first | decide | omega)) ?_
  refine l_q rfl rfl (q_load1 rfl (by kernel_rfl) (own_cellI (hS.sl (i := 1) rfl) hsv)) ?_
  refine l_q rfl rfl (q_assign rfl) ?_
  refine l_nil ?_
  refine hK5 _ _ ?_
  refine wp_seq_k (fun K6 hK6 => ?_)
  refine wp_region_lit ?_
  refine l_q rfl rfl (q_move rfl) ?_
  refine l_e rfl (fun K hK => ?_)
  refine e_call (by kernel_rfl) (Codes_ok r.e _ _ (by first | decide | omega) (hl.keep id hS) (pool_er hS (i := 0) rfl hr1)) rfl (after_N hS (fun v7 G7 w7 hv7 hS7 => ?_))
  clear hS; subst hv7; obtain ⟨pa, pc, rfl⟩ := own_slice (hS7.sl (i := 0) rfl)
  refine hK _ _ ?_; clear hK K
  first | refine l_q rfl rfl (q_assignS rfl) ?_ | refine l_q rfl rfl (q_assign rfl) ?_
  refine l_nil ?_
  refine hK6 _ _ ?_
  refine wp_seq_k (fun K8 hK8 => ?_)
  refine wp_region_lit ?_
  refine l_q rfl rfl (q_move rfl) ?_
  first | refine l_q rfl rfl (q_moveI rfl) ?_ | refine l_q rfl rfl (q_move rfl) ?_
  first | refine l_q rfl rfl (q_moveI rfl) ?_ | refine l_q rfl rfl (q_move rfl) ?_
  refine l_e rfl (fun K hK => ?_)
  have hP9 := hS7.perm_head; clear hS7
  refine e_call (by kernel_rfl) (Wrap_pool (St.begin (Γ := [_]) hP9) _ _ hr1 _ _) rfl (after_M (Γ1 := [_]) hP9 (fun wv G9 w9 hv9 hS9 => ?_))
  clear hP9; obtain ⟨bsw, esw, ssw, ⟨he1, hs1⟩, rfl⟩ := hv9; subst he1; replace hs1 := hs1.symm; subst hs1
  refine hK _ _ ?_; clear hK K
  refine l_q rfl rfl (q_assign rfl) ?_
  refine l_nil ?_
  refine hK8 _ _ ?_
  refine wp_seq_k (fun K10 hK10 => ?_)
  refine wp_region_lit ?_
  have hgw := Er.good_wrap hr4 c a
  have hwl : (r.e.wrap c a).list.length ≤ r.e.list.length + 1 := by unfold Er.wrap; split <;> simp [Er.list]
  refine l_q rfl rfl (q_move rfl) ?_
  refine l_e rfl (fun K hK => ?_)
  refine e_call (by kernel_rfl) (Codes_ok (r.e.wrap c a) _ _ (by first | decide | omega) (hl.keep id hS9) (pool_er hS9 (i := 0) rfl (.head _))) rfl (after_N hS9 (fun v11 G11 w11 hv11 hS11 => ?_))
  clear hS9; subst hv11; obtain ⟨qa, qc, rfl⟩ := own_slice (hS11.sl (i := 0) rfl)
  refine hK _ _ ?_; clear hK K
  first | refine l_q rfl rfl (q_assignS rfl) ?_ | refine l_q rfl rfl (q_assign rfl) ?_
  refine l_nil ?_
  refine hK10 _ _ ?_
  refine wp_seq_k (fun K12 hK12 => ?_)
  refine wp_region_lit ?_
  refine l_q rfl rfl (q_move rfl) ?_
  refine l_q rfl rfl (q_move rfl) ?_
  refine l_e rfl (fun K hK => ?_)
  have hP13 := hS11.perm_head; clear hS11
  refine e_call (by kernel_rfl) (Join_pool (St.begin (Γ := [_]) hP13) _ _ _ _ (.tail _ hr1) (.tail _ hs1)) rfl (after_M (Γ1 := [_]) hP13 (fun jv G13 w13 hv13 hS13 => ?_))
  clear hP13; obtain ⟨bsj, esj, ssj, ⟨he1, hs1⟩, rfl⟩ := hv13; subst he1; replace hs1 := hs1.symm; subst hs1
  refine hK _ _ ?_; clear hK K
  have hlj : ((Er.join r.e s.e).list.length : Int) = (r.e.list.length : Int) + (s.e.list.length : Int) := by rw [Er.list_join, List.length_append]; omega
  refine l_e rfl (fun K hK => ?_)
  refine e_call (by kernel_rfl) (Codes_ok (Er.join r.e s.e) _ _ (by first | decide | omega) (hl.keep id hS13) (pool_er hS13 (i := 0) rfl (.head _))) rfl (after_N hS13 (fun v14 G14 w14 hv14 hS14 => ?_))
  clear hS13; subst hv14; obtain ⟨ua, uc, rfl⟩ := own_slice (hS14.sl (i := 0) rfl)
  refine hK _ _ ?_; clear hK K
  first | refine l_q rfl rfl (q_assignS rfl) ?_ | refine l_q rfl rfl (q_assign rfl) ?_
  refine l_nil ?_
  refine hK12 _ _ ?_
  refine wp_seq_k (fun K15 hK15 => ?_)
  refine wp_region_lit ?_
  refine l_q rfl rfl (q_move rfl) ?_
  refine l_e rfl (fun K hK => ?_)
  refine e_call (by kernel_rfl) (Codes_ok s.e _ _ (by first | decide | omega) (hl.keep id hS14) (pool_er hS14 (i := 1) rfl (.tail _ (.tail _ hs1)))) rfl (after_N hS14 (fun v16 G16 w16 hv16 hS16 => ?_))
  clear hS14; subst hv16; obtain ⟨za, zc, rfl⟩ := own_slice (hS16.sl (i := 0) rfl)
  refine hK _ _ ?_; clear hK K
  first | refine l_q rfl rfl (q_assignS rfl) ?_ | refine l_q rfl rfl (q_assign rfl) ?_
  refine l_nil ?_
  refine hK15 _ _ ?_
  refine wp_seq_k (fun K17 hK17 => ?_)
  refine wp_region_lit ?_
  first | refine l_q rfl rfl (q_assignI rfl) ?_ | refine l_q rfl rfl (q_assign rfl) ?_
  refine l_nil ?_
  refine hK17 _ _ ?_
  refine wp_seq_k (fun K18 hK18 => ?_)
  refine wp_seq_k (fun K19 hK19 => ?_)
  refine wp_region_lit ?_
  refine l_q rfl rfl (q_move rfl) ?_
  first | refine l_q rfl rfl (q_ieq0 rfl (by kernel_rfl)) ?_ | refine l_q rfl rfl (q_ieq1 rfl (by kernel_rfl)) ?_ | refine l_q rfl rfl (q_ieq rfl (by assumption) (by kernel_rfl)) ?_
  first | refine l_q rfl rfl (q_moveB rfl) ?_ | refine l_q rfl rfl (q_move rfl) ?_
  refine g_splitL (t := 52) rfl (fun hg20 => ?_) (fun hg20 => ?_)
  ·
    have hg20b := hg20
    try simp only [decide_eq_true_eq, decide_eq_false_iff_not, Bool.not_eq_true', Bool.not_eq_false', Bool.and_eq_true, Bool.or_eq_true, Int.not_lt, Int.not_le, ne_eq, Decidable.not_not] at hg20
    have hw : r.e.wrap c a = r.e := by rw [Er.wrap, if_pos (.inl (hrn.symm.trans hg20))]
    have hwl2 : ((r.e.wrap c a).list.length : Int) = (r.e.list.length : Int) + 0 := by rw [hw]; omega
    refine l_off rfl rfl rfl hg20b ?_
    refine l_off rfl rfl rfl hg20b ?_
    refine l_q rfl rfl (q_pickT rfl hg20b rfl) ?_
    refine l_nil ?_
    refine hK19 _ _ ?_
    refine c_condT rfl rfl ?_
    refine wp_region_lit ?_
    first | refine l_q rfl rfl (q_assignI rfl) ?_ | refine l_q rfl rfl (q_assign rfl) ?_
    refine l_nil ?_
    refine hK18 _ _ ?_
    refine wp_seq_k (fun K22 hK22 => ?_)
    refine wp_seq_k (fun K23 hK23 => ?_)
    refine wp_region_lit ?_
    first | refine l_q rfl rfl (q_moveS rfl) ?_ | refine l_q rfl rfl (q_move rfl) ?_
    refine l_q rfl rfl (q_lenSl (e := 23) rfl (by kernel_rfl)) ?_
    first | refine l_q rfl rfl (q_moveS rfl) ?_ | refine l_q rfl rfl (q_move rfl) ?_
    refine l_q rfl rfl (q_lenSl (e := 23) rfl (by kernel_rfl)) ?_
    first | refine l_q rfl rfl (q_moveI rfl) ?_ | refine l_q rfl rfl (q_move rfl) ?_
    first | refine l_q rfl rfl (q_addx rfl rfl (by first | decide | omega) (by first | decide | omega)) ?_ | refine l_q rfl rfl (q_add rfl rfl) ?_
    refine l_q rfl rfl (q_neq rfl rfl) ?_
    first | refine l_q rfl rfl (q_moveB rfl) ?_ | refine l_q rfl rfl (q_move rfl) ?_
    refine l_on rfl rfl (decide_eq_false (fun hh => hh hwl2)) ?_
    first | refine l_q rfl rfl (q_moveS rfl) ?_ | refine l_q rfl rfl (q_move rfl) ?_
    refine l_on rfl rfl (decide_eq_false (fun hh => hh hwl2)) ?_
    refine l_q rfl rfl (q_lenSl (e := 23) rfl (by kernel_rfl)) ?_
    refine l_on rfl rfl (decide_eq_false (fun hh => hh hwl2)) ?_
    first | refine l_q rfl rfl (q_moveS rfl) ?_ | refine l_q rfl rfl (q_move rfl) ?_
    refine l_on rfl rfl (decide_eq_false (fun hh => hh hwl2)) ?_
    refine l_q rfl rfl (q_lenSl (e := 23) rfl (by kernel_rfl)) ?_
    refine l_on rfl rfl (decide_eq_false (fun hh => hh hwl2)) ?_
    first | refine l_q rfl rfl (q_moveS rfl) ?_ | refine l_q rfl rfl (q_move rfl) ?_
    refine l_on rfl rfl (decide_eq_false (fun hh => hh hwl2)) ?_
    refine l_q rfl rfl (q_lenSl (e := 23) rfl (by kernel_rfl)) ?_
    refine l_on rfl rfl (decide_eq_false (fun hh => hh hwl2)) ?_
    first | refine l_q rfl rfl (q_addx rfl rfl (by first | decide | omega) (by first | decide | omega)) ?_ | refine l_q rfl rfl (q_add rfl rfl) ?_
    refine l_on rfl rfl (decide_eq_false (fun hh => hh hwl2)) ?_
    refine l_q rfl rfl (q_neq rfl rfl) ?_
    refine l_q rfl rfl (q_pickF rfl (decide_eq_false (fun hh => hh hwl2)) rfl) ?_
    first | refine l_q rfl rfl (q_moveB rfl) ?_ | refine l_q rfl rfl (q_move rfl) ?_
    refine l_on rfl rfl (decide_eq_false (fun hh => hh hlj)) ?_
    first | refine l_q rfl rfl (q_moveI rfl) ?_ | refine l_q rfl rfl (q_move rfl) ?_
    refine l_on rfl rfl (decide_eq_false (fun hh => hh hlj)) ?_
    refine l_q rfl rfl (q_eql rfl rfl) ?_
    refine l_on rfl rfl (decide_eq_false (fun hh => hh hlj)) ?_
    first | refine l_q rfl rfl (q_moveB rfl) ?_ | refine l_q rfl rfl (q_move rfl) ?_
    refine l_off rfl rfl rfl rfl ?_
    refine l_off rfl rfl rfl rfl ?_
    refine l_off rfl rfl rfl rfl ?_
    refine l_off rfl rfl rfl rfl ?_
    refine l_off rfl rfl rfl rfl ?_
    refine l_off rfl rfl rfl rfl ?_
    refine l_offN rfl rfl rfl ?_
    refine l_offN rfl rfl rfl ?_
    refine l_offN rfl rfl rfl ?_
    refine l_offN rfl rfl rfl ?_
    refine l_off rfl rfl rfl rfl ?_
    refine l_on rfl rfl (decide_eq_false (fun hh => hh hlj)) ?_
    refine l_q rfl rfl (q_pickF rfl rfl rfl) ?_
    refine l_q rfl rfl (q_pickF rfl (decide_eq_false (fun hh => hh hlj)) rfl) ?_
    refine l_nil ?_
    refine hK23 _ _ ?_
    refine c_condF rfl rfl ?_
    refine wp_skip ?_
    refine hK22 _ _ ?_
    refine wp_seq_k (fun K25 hK25 => ?_)
    refine wp_seq_k (fun K26 hK26 => ?_)
    refine wp_region_lit ?_
    first | refine l_q rfl rfl (q_assignI rfl) ?_ | refine l_q rfl rfl (q_assign rfl) ?_
    refine l_nil ?_
    refine hK26 _ _ ?_
    refine wp_block ?_
    refine c_loop (τ := Nat × Unit) [(6, 6), (17, 17), (90, 117)] (fun x => [(17, .int .i64 ((x.1 : Nat) : Int))]) (fun x w' => St w (fun _ => False) [CO za zc s.e, CO ua uc (Er.join r.e s.e), .pool bsj ((jv, Er.join r.e s.e) :: (wv, r.e.wrap c a) :: es) ss, CO qa qc (r.e.wrap c a), CO pa pc r.e] w' ∧ x.1 ≤ r.e.list.length) (fun x => r.e.list.length - x.1) ((0, ())) ?_ (by repeat' (first | exact trivial | refine ⟨by first | rfl | exact int_succ _, ?_⟩)) (fun x27 j27 w27 hJ27 K27 hK27 => ?_)
    ·
      exact ⟨hS16.sub (by repeat' (first | exact List.Sublist.refl _ | exact List.nil_sublist _ | apply List.Sublist.cons_cons | apply List.Sublist.cons)), Nat.zero_le _⟩
    ·
      obtain ⟨k, u⟩ := x27; obtain ⟨hS27, hk⟩ := hJ27; dsimp only at hk hS27 ⊢
      refine wp_seq_k (fun K28 hK28 => ?_)
      refine wp_seq_k (fun K29 hK29 => ?_)
      refine wp_region_lit ?_
      first | refine l_q rfl rfl (q_moveI rfl) ?_ | refine l_q rfl rfl (q_move rfl) ?_
      first | refine l_q rfl rfl (q_moveS rfl) ?_ | refine l_q rfl rfl (q_move rfl) ?_
      refine l_q rfl rfl (q_lenSl (e := 23) rfl (by kernel_rfl)) ?_
      refine l_q rfl rfl (q_lss rfl rfl) ?_
      refine l_nil ?_
      refine hK29 _ _ ?_
      refine c_cond rfl (fun hc30 => ?_) (fun hc30 => ?_)
      ·
        have hc30b := hc30
        try simp only [decide_eq_true_eq, decide_eq_false_iff_not, Bool.not_eq_true', Bool.not_eq_false', Bool.and_eq_true, Bool.or_eq_true, Int.not_lt, Int.not_le, ne_eq, Decidable.not_not] at hc30
        have hlt := hc30
        obtain ⟨q, hq⟩ : ∃ q, r.e.list[k]? = some q := ⟨_, List.getElem?_eq_getElem (by omega)⟩
        have hc1 : ((r.e.wrap c a).list.map fun q => Value.int .i64 q.1)[((k : Int) + 0).toNat]? = some (.int .i64 q.1) := map_get (by
            rw [show ((k : Int) + 0).toNat = k + 0 by omega, hw]
            exact hq)
        have hc2 : ((r.e).list.map fun q => Value.int .i64 q.1)[(k : Int).toNat]? = some (.int .i64 q.1) := map_get hq
        have hc3 : ((Er.join r.e s.e).list.map fun q => Value.int .i64 q.1)[(k : Int).toNat]? = some (.int .i64 q.1) := map_get (by
            rw [Er.list_join]
            exact (List.getElem?_append_left (by omega)).trans hq)
        obtain ⟨qg, qd, hqe⟩ := own_some (hS27.sl (i := 3) rfl) (by omega)
        obtain ⟨pg, pd, hpe⟩ := own_some (hS27.sl (i := 4) rfl) (by omega)
        obtain ⟨ug, ud, hue⟩ := own_some (hS27.sl (i := 1) rfl) (by omega)
        refine wp_skip ?_
        refine hK28 _ _ ?_
        refine wp_seq_k (fun K31 hK31 => ?_)
        refine wp_block ?_
        refine wp_seq_k (fun K32 hK32 => ?_)
        refine r_any (by kernel_rfl) hS27 (fun w33 hS33 => ?_)
        clear hS27
        first | refine o_pure (i := 0) (fun _ _ => trivial) rfl rfl (by kernel_rfl) (goes0 rfl) (QOk.then (QOk.inBlock (QOk.then (QOk.then (QOk.inBlock (QOk.then QOk.body)))))) (fun w => q_moveS rfl) ?_ | refine o_pure (i := 0) (fun _ _ => trivial) rfl rfl (by kernel_rfl) (goes0 rfl) (QOk.then (QOk.inBlock (QOk.then (QOk.then (QOk.inBlock (QOk.then QOk.body)))))) (fun w => q_move rfl) ?_
        first | refine o_pure (i := 1) (fun _ _ => trivial) rfl rfl (by kernel_rfl) (goes0 rfl) (QOk.then (QOk.inBlock (QOk.then (QOk.then (QOk.inBlock (QOk.then QOk.body)))))) (fun w => q_moveI rfl) ?_ | refine o_pure (i := 1) (fun _ _ => trivial) rfl rfl (by kernel_rfl) (goes0 rfl) (QOk.then (QOk.inBlock (QOk.then (QOk.then (QOk.inBlock (QOk.then QOk.body)))))) (fun w => q_move rfl) ?_
        first | refine o_pure (i := 2) (fun _ _ => trivial) rfl rfl (by kernel_rfl) (goes0 rfl) (QOk.then (QOk.inBlock (QOk.then (QOk.then (QOk.inBlock (QOk.then QOk.body)))))) (fun w => q_moveI rfl) ?_ | refine o_pure (i := 2) (fun _ _ => trivial) rfl rfl (by kernel_rfl) (goes0 rfl) (QOk.then (QOk.inBlock (QOk.then (QOk.then (QOk.inBlock (QOk.then QOk.body)))))) (fun w => q_move rfl) ?_
        first | refine o_pure (i := 3) (fun _ _ => trivial) rfl rfl (by kernel_rfl) (goes0 rfl) (QOk.then (QOk.inBlock (QOk.then (QOk.then (QOk.inBlock (QOk.then QOk.body)))))) (fun w => q_addx rfl rfl (by first | decide | omega) (by first | decide | omega)) ?_ | refine o_pure (i := 3) (fun _ _ => trivial) rfl rfl (by kernel_rfl) (goes0 rfl) (QOk.then (QOk.inBlock (QOk.then (QOk.then (QOk.inBlock (QOk.then QOk.body)))))) (fun w => q_add rfl rfl) ?_
        refine o_pure (i := 4) (fun _ _ => trivial) rfl rfl (by kernel_rfl) (goes0 rfl) (QOk.then (QOk.inBlock (QOk.then (QOk.then (QOk.inBlock (QOk.then QOk.body)))))) (fun w => q_indexAddr (e := 23) (m := 1) hqe rfl (by kernel_rfl) (by kernel_rfl) (by first | decide | omega) (by first | decide | omega)) ?_
        refine o_held (i := 5) [10, 11, 12, 13, 14, 15, 16, 17, 18, 19, 20, 21] (fun _ _ => trivial) rfl rfl (by kernel_rfl) (goes0 rfl) (QOk.then (QOk.inBlock (QOk.then (QOk.then (QOk.inBlock (QOk.then QOk.body)))))) (q_load1 rfl (by kernel_rfl) (own_cellE (hS33.sl (i := 3) rfl) hqe hc1)) ?_
        first | refine o_pure (i := 6) (fun j w => ⟨(fun _ _ => trivial) j w, fun _ h => h⟩) rfl rfl (by kernel_rfl) (goes0 rfl) (QOk.then (QOk.inBlock (QOk.then (QOk.then (QOk.inBlock (QOk.then QOk.body)))))) (fun w => q_moveS rfl) ?_ | refine o_pure (i := 6) (fun j w => ⟨(fun _ _ => trivial) j w, fun _ h => h⟩) rfl rfl (by kernel_rfl) (goes0 rfl) (QOk.then (QOk.inBlock (QOk.then (QOk.then (QOk.inBlock (QOk.then QOk.body)))))) (fun w => q_move rfl) ?_
        first | refine o_pure (i := 7) (fun j w => ⟨(fun _ _ => trivial) j w, fun _ h => h⟩) rfl rfl (by kernel_rfl) (goes0 rfl) (QOk.then (QOk.inBlock (QOk.then (QOk.then (QOk.inBlock (QOk.then QOk.body)))))) (fun w => q_moveI rfl) ?_ | refine o_pure (i := 7) (fun j w => ⟨(fun _ _ => trivial) j w, fun _ h => h⟩) rfl rfl (by kernel_rfl) (goes0 rfl) (QOk.then (QOk.inBlock (QOk.then (QOk.then (QOk.inBlock (QOk.then QOk.body)))))) (fun w => q_move rfl) ?_
        refine o_pure (i := 8) (fun j w => ⟨(fun _ _ => trivial) j w, fun _ h => h⟩) rfl rfl (by kernel_rfl) (goes0 rfl) (QOk.then (QOk.inBlock (QOk.then (QOk.then (QOk.inBlock (QOk.then QOk.body)))))) (fun w => q_indexAddr (e := 23) (m := 1) hpe rfl (by kernel_rfl) (by kernel_rfl) (by first | decide | omega) (by first | decide | omega)) ?_
        refine o_held (i := 9) [10, 11, 12, 13, 14, 15, 16, 17, 18, 19, 20, 21] (fun j w => ⟨(fun _ _ => trivial) j w, fun _ h => h⟩) rfl rfl (by kernel_rfl) (goes0 rfl) (QOk.then (QOk.inBlock (QOk.then (QOk.then (QOk.inBlock (QOk.then QOk.body)))))) (q_load1 rfl (by kernel_rfl) (own_cellE (hS33.sl (i := 4) rfl) hpe hc2)) ?_
        refine o_pure (i := 10) (fun j w => ⟨(fun j w => ⟨(fun _ _ => trivial) j w, fun _ h => h⟩) j w, fun _ h => h⟩) rfl rfl (by kernel_rfl) (goes0 rfl) (QOk.then (QOk.inBlock (QOk.then (QOk.then (QOk.inBlock (QOk.then QOk.body)))))) (fun w => q_neq rfl rfl) ?_
        first | refine o_pure (i := 11) (fun j w => ⟨(fun j w => ⟨(fun _ _ => trivial) j w, fun _ h => h⟩) j w, fun _ h => h⟩) rfl rfl (by kernel_rfl) (goes0 rfl) (QOk.then (QOk.inBlock (QOk.then (QOk.then (QOk.inBlock (QOk.then QOk.body)))))) (fun w => q_moveB rfl) ?_ | refine o_pure (i := 11) (fun j w => ⟨(fun j w => ⟨(fun _ _ => trivial) j w, fun _ h => h⟩) j w, fun _ h => h⟩) rfl rfl (by kernel_rfl) (goes0 rfl) (QOk.then (QOk.inBlock (QOk.then (QOk.then (QOk.inBlock (QOk.then QOk.body)))))) (fun w => q_move rfl) ?_
        first | refine o_pure (i := 12) (fun j w => ⟨(fun j w => ⟨(fun _ _ => trivial) j w, fun _ h => h⟩) j w, fun _ h => h⟩) rfl rfl (by kernel_rfl) (goes1 rfl rfl (decide_eq_false (fun hh => hh rfl))) (QOk.then (QOk.inBlock (QOk.then (QOk.then (QOk.inBlock (QOk.then QOk.body)))))) (fun w => q_moveS rfl) ?_ | refine o_pure (i := 12) (fun j w => ⟨(fun j w => ⟨(fun _ _ => trivial) j w, fun _ h => h⟩) j w, fun _ h => h⟩) rfl rfl (by kernel_rfl) (goes1 rfl rfl (decide_eq_false (fun hh => hh rfl))) (QOk.then (QOk.inBlock (QOk.then (QOk.then (QOk.inBlock (QOk.then QOk.body)))))) (fun w => q_move rfl) ?_
        first | refine o_pure (i := 13) (fun j w => ⟨(fun j w => ⟨(fun _ _ => trivial) j w, fun _ h => h⟩) j w, fun _ h => h⟩) rfl rfl (by kernel_rfl) (goes1 rfl rfl (decide_eq_false (fun hh => hh rfl))) (QOk.then (QOk.inBlock (QOk.then (QOk.then (QOk.inBlock (QOk.then QOk.body)))))) (fun w => q_moveI rfl) ?_ | refine o_pure (i := 13) (fun j w => ⟨(fun j w => ⟨(fun _ _ => trivial) j w, fun _ h => h⟩) j w, fun _ h => h⟩) rfl rfl (by kernel_rfl) (goes1 rfl rfl (decide_eq_false (fun hh => hh rfl))) (QOk.then (QOk.inBlock (QOk.then (QOk.then (QOk.inBlock (QOk.then QOk.body)))))) (fun w => q_move rfl) ?_
        refine o_pure (i := 14) (fun j w => ⟨(fun j w => ⟨(fun _ _ => trivial) j w, fun _ h => h⟩) j w, fun _ h => h⟩) rfl rfl (by kernel_rfl) (goes1 rfl rfl (decide_eq_false (fun hh => hh rfl))) (QOk.then (QOk.inBlock (QOk.then (QOk.then (QOk.inBlock (QOk.then QOk.body)))))) (fun w => q_indexAddr (e := 23) (m := 1) hue rfl (by kernel_rfl) (by kernel_rfl) (by first | decide | omega) (by first | decide | omega)) ?_
        refine o_held (i := 15) [20, 21] (fun j w => ⟨(fun j w => ⟨(fun _ _ => trivial) j w, fun _ h => h⟩) j w, fun _ h => h⟩) rfl rfl (by kernel_rfl) (goes1 rfl rfl (decide_eq_false (fun hh => hh rfl))) (QOk.then (QOk.inBlock (QOk.then (QOk.then (QOk.inBlock (QOk.then QOk.body)))))) (q_load1 rfl (by kernel_rfl) (own_cellE (hS33.sl (i := 1) rfl) hue hc3)) ?_
        first | refine o_pure (i := 16) (fun j w => ⟨(fun j w => ⟨(fun j w => ⟨(fun _ _ => trivial) j w, fun _ h => h⟩) j w, fun _ h => h⟩) j w, fun _ h => h⟩) rfl rfl (by kernel_rfl) (goes1 rfl rfl (decide_eq_false (fun hh => hh rfl))) (QOk.then (QOk.inBlock (QOk.then (QOk.then (QOk.inBlock (QOk.then QOk.body)))))) (fun w => q_moveS rfl) ?_ | refine o_pure (i := 16) (fun j w => ⟨(fun j w => ⟨(fun j w => ⟨(fun _ _ => trivial) j w, fun _ h => h⟩) j w, fun _ h => h⟩) j w, fun _ h => h⟩) rfl rfl (by kernel_rfl) (goes1 rfl rfl (decide_eq_false (fun hh => hh rfl))) (QOk.then (QOk.inBlock (QOk.then (QOk.then (QOk.inBlock (QOk.then QOk.body)))))) (fun w => q_move rfl) ?_
        first | refine o_pure (i := 17) (fun j w => ⟨(fun j w => ⟨(fun j w => ⟨(fun _ _ => trivial) j w, fun _ h => h⟩) j w, fun _ h => h⟩) j w, fun _ h => h⟩) rfl rfl (by kernel_rfl) (goes1 rfl rfl (decide_eq_false (fun hh => hh rfl))) (QOk.then (QOk.inBlock (QOk.then (QOk.then (QOk.inBlock (QOk.then QOk.body)))))) (fun w => q_moveI rfl) ?_ | refine o_pure (i := 17) (fun j w => ⟨(fun j w => ⟨(fun j w => ⟨(fun _ _ => trivial) j w, fun _ h => h⟩) j w, fun _ h => h⟩) j w, fun _ h => h⟩) rfl rfl (by kernel_rfl) (goes1 rfl rfl (decide_eq_false (fun hh => hh rfl))) (QOk.then (QOk.inBlock (QOk.then (QOk.then (QOk.inBlock (QOk.then QOk.body)))))) (fun w => q_move rfl) ?_
        refine o_pure (i := 18) (fun j w => ⟨(fun j w => ⟨(fun j w => ⟨(fun _ _ => trivial) j w, fun _ h => h⟩) j w, fun _ h => h⟩) j w, fun _ h => h⟩) rfl rfl (by kernel_rfl) (goes1 rfl rfl (decide_eq_false (fun hh => hh rfl))) (QOk.then (QOk.inBlock (QOk.then (QOk.then (QOk.inBlock (QOk.then QOk.body)))))) (fun w => q_indexAddr (e := 23) (m := 1) hpe rfl (by kernel_rfl) (by kernel_rfl) (by first | decide | omega) (by first | decide | omega)) ?_
        refine o_held (i := 19) [20, 21] (fun j w => ⟨(fun j w => ⟨(fun j w => ⟨(fun _ _ => trivial) j w, fun _ h => h⟩) j w, fun _ h => h⟩) j w, fun _ h => h⟩) rfl rfl (by kernel_rfl) (goes1 rfl rfl (decide_eq_false (fun hh => hh rfl))) (QOk.then (QOk.inBlock (QOk.then (QOk.then (QOk.inBlock (QOk.then QOk.body)))))) (q_load1 rfl (by kernel_rfl) (own_cellE (hS33.sl (i := 4) rfl) hpe hc2)) ?_
        refine o_pure (i := 20) (fun j w => ⟨(fun j w => ⟨(fun j w => ⟨(fun j w => ⟨(fun _ _ => trivial) j w, fun _ h => h⟩) j w, fun _ h => h⟩) j w, fun _ h => h⟩) j w, fun _ h => h⟩) rfl rfl (by kernel_rfl) (goes1 rfl rfl (decide_eq_false (fun hh => hh rfl))) (QOk.then (QOk.inBlock (QOk.then (QOk.then (QOk.inBlock (QOk.then QOk.body)))))) (fun w => q_neq rfl rfl) ?_
        refine o_pure (i := 21) (fun j w => ⟨(fun j w => ⟨(fun j w => ⟨(fun j w => ⟨(fun _ _ => trivial) j w, fun _ h => h⟩) j w, fun _ h => h⟩) j w, fun _ h => h⟩) j w, fun _ h => h⟩) rfl rfl (by kernel_rfl) (goes0 rfl) (QOk.then (QOk.inBlock (QOk.then (QOk.then (QOk.inBlock (QOk.then QOk.body)))))) (fun w => q_pickF rfl (decide_eq_false (fun hh => hh rfl)) rfl) ?_
        refine o_done (by kernel_rfl) ?_
        refine hK32 _ _ ?_
        refine c_condF rfl (decide_eq_false (fun hh => hh rfl)) ?_
        refine wp_skip ?_
        refine hK31 _ _ ?_
        refine wp_region_lit ?_
        first | refine l_q rfl rfl (q_moveI rfl) ?_ | refine l_q rfl rfl (q_move rfl) ?_
        first | refine l_q rfl rfl (q_addx rfl rfl (by first | decide | omega) (by first | decide | omega)) ?_ | refine l_q rfl rfl (q_add rfl rfl) ?_
        first | refine l_q rfl rfl (q_assignI rfl) ?_ | refine l_q rfl rfl (q_assign rfl) ?_
        refine l_nil ?_
        refine hK27 _ _ (came ((k + 1, ())) (by repeat' (first | exact Agree.refl _ _ | refine Agree.up ?_ rfl | refine Agree.hav2 ?_ rfl | refine Agree.ups2 ?_ rfl)) (by repeat' (first | exact trivial | refine ⟨by first | rfl | exact int_succ _, ?_⟩)) ?_)
        exact ⟨⟨hS33, by (show k + 1 ≤ r.e.list.length); omega⟩, by (show r.e.list.length - (k + 1) < r.e.list.length - k); omega⟩
      ·
        have hc30b := hc30
        try simp only [decide_eq_true_eq, decide_eq_false_iff_not, Bool.not_eq_true', Bool.not_eq_false', Bool.and_eq_true, Bool.or_eq_true, Int.not_lt, Int.not_le, ne_eq, Decidable.not_not] at hc30
        clear hk
        refine wp_exit ?_
        refine hK25 _ _ ?_
        refine wp_seq_k (fun K35 hK35 => ?_)
        refine wp_seq_k (fun K36 hK36 => ?_)
        refine wp_region_lit ?_
        first | refine l_q rfl rfl (q_assignI rfl) ?_ | refine l_q rfl rfl (q_assign rfl) ?_
        refine l_nil ?_
        refine hK36 _ _ ?_
        refine wp_block ?_
        refine c_loop (τ := Nat × Unit) [(6, 6), (18, 18), (118, 135)] (fun x => [(18, .int .i64 ((x.1 : Nat) : Int))]) (fun x w' => St w (fun _ => False) [CO za zc s.e, CO ua uc (Er.join r.e s.e), .pool bsj ((jv, Er.join r.e s.e) :: (wv, r.e.wrap c a) :: es) ss, CO qa qc (r.e.wrap c a), CO pa pc r.e] w' ∧ x.1 ≤ s.e.list.length) (fun x => s.e.list.length - x.1) ((0, ())) ?_ (by repeat' (first | exact trivial | refine ⟨by first | rfl | exact int_succ _, ?_⟩)) (fun x37 j37 w37 hJ37 K37 hK37 => ?_)
        ·
          exact ⟨hS27.sub (by repeat' (first | exact List.Sublist.refl _ | exact List.nil_sublist _ | apply List.Sublist.cons_cons | apply List.Sublist.cons)), Nat.zero_le _⟩
        ·
          obtain ⟨k, u⟩ := x37; obtain ⟨hS37, hk⟩ := hJ37; dsimp only at hk hS37 ⊢
          refine wp_seq_k (fun K38 hK38 => ?_)
          refine wp_seq_k (fun K39 hK39 => ?_)
          refine wp_region_lit ?_
          first | refine l_q rfl rfl (q_moveI rfl) ?_ | refine l_q rfl rfl (q_move rfl) ?_
          first | refine l_q rfl rfl (q_moveS rfl) ?_ | refine l_q rfl rfl (q_move rfl) ?_
          refine l_q rfl rfl (q_lenSl (e := 23) rfl (by kernel_rfl)) ?_
          refine l_q rfl rfl (q_lss rfl rfl) ?_
          refine l_nil ?_
          refine hK39 _ _ ?_
          refine c_cond rfl (fun hc40 => ?_) (fun hc40 => ?_)
          ·
            have hc40b := hc40
            try simp only [decide_eq_true_eq, decide_eq_false_iff_not, Bool.not_eq_true', Bool.not_eq_false', Bool.and_eq_true, Bool.or_eq_true, Int.not_lt, Int.not_le, ne_eq, Decidable.not_not] at hc40
            have hlt := hc40
            obtain ⟨q, hq⟩ : ∃ q, s.e.list[k]? = some q := ⟨_, List.getElem?_eq_getElem (by omega)⟩
            have hd1 : ((Er.join r.e s.e).list.map fun q => Value.int .i64 q.1)[((r.e.list.length : Int) + (k : Int)).toNat]? = some (.int .i64 q.1) := map_get (by
                rw [show ((r.e.list.length : Int) + (k : Int)).toNat = r.e.list.length + k by omega, Er.list_join, List.getElem?_append_right (by omega), Nat.add_sub_cancel_left]
                exact hq)
            have hd2 : ((s.e).list.map fun q => Value.int .i64 q.1)[(k : Int).toNat]? = some (.int .i64 q.1) := map_get hq
            obtain ⟨zg, zd, hze⟩ := own_some (hS37.sl (i := 0) rfl) (by omega)
            obtain ⟨ug, ud, hue⟩ := own_some (hS37.sl (i := 1) rfl) (by omega)
            refine wp_skip ?_
            refine hK38 _ _ ?_
            refine wp_seq_k (fun K41 hK41 => ?_)
            refine wp_block ?_
            refine wp_seq_k (fun K42 hK42 => ?_)
            refine r_any (by kernel_rfl) hS37 (fun w43 hS43 => ?_)
            clear hS37
            first | refine o_pure (i := 0) (fun _ _ => trivial) rfl rfl (by kernel_rfl) (goes0 rfl) (QOk.then (QOk.inBlock (QOk.then (QOk.then (QOk.inBlock (QOk.then QOk.body)))))) (fun w => q_moveS rfl) ?_ | refine o_pure (i := 0) (fun _ _ => trivial) rfl rfl (by kernel_rfl) (goes0 rfl) (QOk.then (QOk.inBlock (QOk.then (QOk.then (QOk.inBlock (QOk.then QOk.body)))))) (fun w => q_move rfl) ?_
            first | refine o_pure (i := 1) (fun _ _ => trivial) rfl rfl (by kernel_rfl) (goes0 rfl) (QOk.then (QOk.inBlock (QOk.then (QOk.then (QOk.inBlock (QOk.then QOk.body)))))) (fun w => q_moveS rfl) ?_ | refine o_pure (i := 1) (fun _ _ => trivial) rfl rfl (by kernel_rfl) (goes0 rfl) (QOk.then (QOk.inBlock (QOk.then (QOk.then (QOk.inBlock (QOk.then QOk.body)))))) (fun w => q_move rfl) ?_
            refine o_pure (i := 2) (fun _ _ => trivial) rfl rfl (by kernel_rfl) (goes0 rfl) (QOk.then (QOk.inBlock (QOk.then (QOk.then (QOk.inBlock (QOk.then QOk.body)))))) (fun w => q_lenSl (e := 23) rfl (by kernel_rfl)) ?_
            first | refine o_pure (i := 3) (fun _ _ => trivial) rfl rfl (by kernel_rfl) (goes0 rfl) (QOk.then (QOk.inBlock (QOk.then (QOk.then (QOk.inBlock (QOk.then QOk.body)))))) (fun w => q_moveI rfl) ?_ | refine o_pure (i := 3) (fun _ _ => trivial) rfl rfl (by kernel_rfl) (goes0 rfl) (QOk.then (QOk.inBlock (QOk.then (QOk.then (QOk.inBlock (QOk.then QOk.body)))))) (fun w => q_move rfl) ?_
            first | refine o_pure (i := 4) (fun _ _ => trivial) rfl rfl (by kernel_rfl) (goes0 rfl) (QOk.then (QOk.inBlock (QOk.then (QOk.then (QOk.inBlock (QOk.then QOk.body)))))) (fun w => q_addx rfl rfl (by first | decide | omega) (by first | decide | omega)) ?_ | refine o_pure (i := 4) (fun _ _ => trivial) rfl rfl (by kernel_rfl) (goes0 rfl) (QOk.then (QOk.inBlock (QOk.then (QOk.then (QOk.inBlock (QOk.then QOk.body)))))) (fun w => q_add rfl rfl) ?_
            refine o_pure (i := 5) (fun _ _ => trivial) rfl rfl (by kernel_rfl) (goes0 rfl) (QOk.then (QOk.inBlock (QOk.then (QOk.then (QOk.inBlock (QOk.then QOk.body)))))) (fun w => q_indexAddr (e := 23) (m := 1) hue rfl (by kernel_rfl) (by kernel_rfl) (by first | decide | omega) (by first | decide | omega)) ?_
            refine o_held (i := 6) [11] (fun _ _ => trivial) rfl rfl (by kernel_rfl) (goes0 rfl) (QOk.then (QOk.inBlock (QOk.then (QOk.then (QOk.inBlock (QOk.then QOk.body)))))) (q_load1 rfl (by kernel_rfl) (own_cellE (hS43.sl (i := 1) rfl) hue hd1)) ?_
            first | refine o_pure (i := 7) (fun j w => ⟨(fun _ _ => trivial) j w, fun _ h => h⟩) rfl rfl (by kernel_rfl) (goes0 rfl) (QOk.then (QOk.inBlock (QOk.then (QOk.then (QOk.inBlock (QOk.then QOk.body)))))) (fun w => q_moveS rfl) ?_ | refine o_pure (i := 7) (fun j w => ⟨(fun _ _ => trivial) j w, fun _ h => h⟩) rfl rfl (by kernel_rfl) (goes0 rfl) (QOk.then (QOk.inBlock (QOk.then (QOk.then (QOk.inBlock (QOk.then QOk.body)))))) (fun w => q_move rfl) ?_
            first | refine o_pure (i := 8) (fun j w => ⟨(fun _ _ => trivial) j w, fun _ h => h⟩) rfl rfl (by kernel_rfl) (goes0 rfl) (QOk.then (QOk.inBlock (QOk.then (QOk.then (QOk.inBlock (QOk.then QOk.body)))))) (fun w => q_moveI rfl) ?_ | refine o_pure (i := 8) (fun j w => ⟨(fun _ _ => trivial) j w, fun _ h => h⟩) rfl rfl (by kernel_rfl) (goes0 rfl) (QOk.then (QOk.inBlock (QOk.then (QOk.then (QOk.inBlock (QOk.then QOk.body)))))) (fun w => q_move rfl) ?_
            refine o_pure (i := 9) (fun j w => ⟨(fun _ _ => trivial) j w, fun _ h => h⟩) rfl rfl (by kernel_rfl) (goes0 rfl) (QOk.then (QOk.inBlock (QOk.then (QOk.then (QOk.inBlock (QOk.then QOk.body)))))) (fun w => q_indexAddr (e := 23) (m := 1) hze rfl (by kernel_rfl) (by kernel_rfl) (by first | decide | omega) (by first | decide | omega)) ?_
            refine o_held (i := 10) [11] (fun j w => ⟨(fun _ _ => trivial) j w, fun _ h => h⟩) rfl rfl (by kernel_rfl) (goes0 rfl) (QOk.then (QOk.inBlock (QOk.then (QOk.then (QOk.inBlock (QOk.then QOk.body)))))) (q_load1 rfl (by kernel_rfl) (own_cellE (hS43.sl (i := 0) rfl) hze hd2)) ?_
            refine o_pure (i := 11) (fun j w => ⟨(fun j w => ⟨(fun _ _ => trivial) j w, fun _ h => h⟩) j w, fun _ h => h⟩) rfl rfl (by kernel_rfl) (goes0 rfl) (QOk.then (QOk.inBlock (QOk.then (QOk.then (QOk.inBlock (QOk.then QOk.body)))))) (fun w => q_neq rfl rfl) ?_
            refine o_done (by kernel_rfl) ?_
            refine hK42 _ _ ?_
            refine c_condF rfl (decide_eq_false (fun hh => hh rfl)) ?_
            refine wp_skip ?_
            refine hK41 _ _ ?_
            refine wp_region_lit ?_
            first | refine l_q rfl rfl (q_moveI rfl) ?_ | refine l_q rfl rfl (q_move rfl) ?_
            first | refine l_q rfl rfl (q_addx rfl rfl (by first | decide | omega) (by first | decide | omega)) ?_ | refine l_q rfl rfl (q_add rfl rfl) ?_
            first | refine l_q rfl rfl (q_assignI rfl) ?_ | refine l_q rfl rfl (q_assign rfl) ?_
            refine l_nil ?_
            refine hK37 _ _ (came ((k + 1, ())) (by repeat' (first | exact Agree.refl _ _ | refine Agree.up ?_ rfl | refine Agree.hav2 ?_ rfl | refine Agree.ups2 ?_ rfl)) (by repeat' (first | exact trivial | refine ⟨by first | rfl | exact int_succ _, ?_⟩)) ?_)
            exact ⟨⟨hS43, by (show k + 1 ≤ s.e.list.length); omega⟩, by (show s.e.list.length - (k + 1) < s.e.list.length - k); omega⟩
          ·
            have hc40b := hc40
            try simp only [decide_eq_true_eq, decide_eq_false_iff_not, Bool.not_eq_true', Bool.not_eq_false', Bool.and_eq_true, Bool.or_eq_true, Int.not_lt, Int.not_le, ne_eq, Decidable.not_not] at hc40
            refine wp_exit ?_
            refine hK35 _ _ ?_
            refine wp_seq_k (fun K45 hK45 => ?_)
            refine wp_region_lit ?_
            refine l_e rfl (fun K hK => ?_)
            refine e_call (by kernel_rfl) (alive_ok _ (hl.keep id hS37)) rfl (after_R hS37 (fun v46 w46 hv46 hS46 => ?_))
            clear hS37; replace hv46 := hv46.symm; subst hv46
            refine hK _ _ ?_; clear hK K
            first | refine l_q rfl rfl (q_moveB rfl) ?_ | refine l_q rfl rfl (q_move rfl) ?_
            refine l_on rfl rfl rfl ?_
            refine l_q rfl rfl (q_move rfl) ?_
            refine l_on rfl rfl rfl ?_
            refine l_e rfl (fun K hK => ?_)
            refine e_call (by kernel_rfl) (Codes_ok r.e _ _ (by first | decide | omega) (hl.keep id hS46) (pool_er hS46 (i := 2) rfl (.tail _ (.tail _ hr1)))) rfl (after_N hS46 (fun v47 G47 w47 hv47 hS47 => ?_))
            clear hS46; subst hv47; obtain ⟨ya, yc, rfl⟩ := own_slice (hS47.sl (i := 0) rfl)
            refine hK _ _ ?_; clear hK K
            refine l_on rfl rfl rfl ?_
            refine l_q rfl rfl (q_lenSl (e := 23) rfl (by kernel_rfl)) ?_
            refine l_on rfl rfl rfl ?_
            first | refine l_q rfl rfl (q_moveS rfl) ?_ | refine l_q rfl rfl (q_move rfl) ?_
            refine l_on rfl rfl rfl ?_
            refine l_q rfl rfl (q_lenSl (e := 23) rfl (by kernel_rfl)) ?_
            refine l_on rfl rfl rfl ?_
            refine l_q rfl rfl (q_eql rfl rfl) ?_
            refine l_q rfl rfl (q_pickT rfl rfl rfl) ?_
            first | refine l_q rfl rfl (q_assignB rfl) ?_ | refine l_q rfl rfl (q_assign rfl) ?_
            refine l_nil ?_
            refine hK45 _ _ ?_
            refine wp_ret ?_
            refine c_ret1 rfl rfl ?_
            exact ⟨_, rfl, (show _ = Value.bool (decide (((r.e.list.length : Nat) : Int) = ((r.e.list.length : Nat) : Int))) from rfl).trans (by rw [decide_eq_true rfl]), hS47.drop⟩
  ·
    have hg20b := hg20
    try simp only [decide_eq_true_eq, decide_eq_false_iff_not, Bool.not_eq_true', Bool.not_eq_false', Bool.and_eq_true, Bool.or_eq_true, Int.not_lt, Int.not_le, ne_eq, Decidable.not_not] at hg20
    have hrn2 := hrn.symm.trans hg20
    refine l_on rfl rfl hg20b ?_
    first | refine l_q rfl rfl (q_moveI rfl) ?_ | refine l_q rfl rfl (q_move rfl) ?_
    refine l_on rfl rfl hg20b ?_
    refine l_q rfl rfl (q_eql rfl rfl) ?_
    refine l_q rfl rfl (q_pickF rfl hg20b rfl) ?_
    refine l_nil ?_
    refine hK19 _ _ ?_
    refine c_cond rfl (fun hc48 => ?_) (fun hc48 => ?_)
    ·
      have hc48b := hc48
      try simp only [decide_eq_true_eq, decide_eq_false_iff_not, Bool.not_eq_true', Bool.not_eq_false', Bool.and_eq_true, Bool.or_eq_true, Int.not_lt, Int.not_le, ne_eq, Decidable.not_not] at hc48
      have hw : r.e.wrap c a = r.e := by rw [Er.wrap, if_pos (.inr hc48)]
      have hwl2 : ((r.e.wrap c a).list.length : Int) = (r.e.list.length : Int) + 0 := by rw [hw]; omega
      refine wp_region_lit ?_
      first | refine l_q rfl rfl (q_assignI rfl) ?_ | refine l_q rfl rfl (q_assign rfl) ?_
      refine l_nil ?_
      refine hK18 _ _ ?_
      refine wp_seq_k (fun K49 hK49 => ?_)
      refine wp_seq_k (fun K50 hK50 => ?_)
      refine wp_region_lit ?_
      first | refine l_q rfl rfl (q_moveS rfl) ?_ | refine l_q rfl rfl (q_move rfl) ?_
      refine l_q rfl rfl (q_lenSl (e := 23) rfl (by kernel_rfl)) ?_
      first | refine l_q rfl rfl (q_moveS rfl) ?_ | refine l_q rfl rfl (q_move rfl) ?_
      refine l_q rfl rfl (q_lenSl (e := 23) rfl (by kernel_rfl)) ?_
      first | refine l_q rfl rfl (q_moveI rfl) ?_ | refine l_q rfl rfl (q_move rfl) ?_
      first | refine l_q rfl rfl (q_addx rfl rfl (by first | decide | omega) (by first | decide | omega)) ?_ | refine l_q rfl rfl (q_add rfl rfl) ?_
      refine l_q rfl rfl (q_neq rfl rfl) ?_
      first | refine l_q rfl rfl (q_moveB rfl) ?_ | refine l_q rfl rfl (q_move rfl) ?_
      refine l_on rfl rfl (decide_eq_false (fun hh => hh hwl2)) ?_
      first | refine l_q rfl rfl (q_moveS rfl) ?_ | refine l_q rfl rfl (q_move rfl) ?_
      refine l_on rfl rfl (decide_eq_false (fun hh => hh hwl2)) ?_
      refine l_q rfl rfl (q_lenSl (e := 23) rfl (by kernel_rfl)) ?_
      refine l_on rfl rfl (decide_eq_false (fun hh => hh hwl2)) ?_
      first | refine l_q rfl rfl (q_moveS rfl) ?_ | refine l_q rfl rfl (q_move rfl) ?_
      refine l_on rfl rfl (decide_eq_false (fun hh => hh hwl2)) ?_
      refine l_q rfl rfl (q_lenSl (e := 23) rfl (by kernel_rfl)) ?_
      refine l_on rfl rfl (decide_eq_false (fun hh => hh hwl2)) ?_
      first | refine l_q rfl rfl (q_moveS rfl) ?_ | refine l_q rfl rfl (q_move rfl) ?_
      refine l_on rfl rfl (decide_eq_false (fun hh => hh hwl2)) ?_
      refine l_q rfl rfl (q_lenSl (e := 23) rfl (by kernel_rfl)) ?_
      refine l_on rfl rfl (decide_eq_false (fun hh => hh hwl2)) ?_
      first | refine l_q rfl rfl (q_addx rfl rfl (by first | decide | omega) (by first | decide | omega)) ?_ | refine l_q rfl rfl (q_add rfl rfl) ?_
      refine l_on rfl rfl (decide_eq_false (fun hh => hh hwl2)) ?_
      refine l_q rfl rfl (q_neq rfl rfl) ?_
      refine l_q rfl rfl (q_pickF rfl (decide_eq_false (fun hh => hh hwl2)) rfl) ?_
      first | refine l_q rfl rfl (q_moveB rfl) ?_ | refine l_q rfl rfl (q_move rfl) ?_
      refine l_on rfl rfl (decide_eq_false (fun hh => hh hlj)) ?_
      first | refine l_q rfl rfl (q_moveI rfl) ?_ | refine l_q rfl rfl (q_move rfl) ?_
      refine l_on rfl rfl (decide_eq_false (fun hh => hh hlj)) ?_
      refine l_q rfl rfl (q_eql rfl rfl) ?_
      refine l_on rfl rfl (decide_eq_false (fun hh => hh hlj)) ?_
      first | refine l_q rfl rfl (q_moveB rfl) ?_ | refine l_q rfl rfl (q_move rfl) ?_
      refine l_off rfl rfl rfl rfl ?_
      refine l_off rfl rfl rfl rfl ?_
      refine l_off rfl rfl rfl rfl ?_
      refine l_off rfl rfl rfl rfl ?_
      refine l_off rfl rfl rfl rfl ?_
      refine l_off rfl rfl rfl rfl ?_
      refine l_offN rfl rfl rfl ?_
      refine l_offN rfl rfl rfl ?_
      refine l_offN rfl rfl rfl ?_
      refine l_offN rfl rfl rfl ?_
      refine l_off rfl rfl rfl rfl ?_
      refine l_on rfl rfl (decide_eq_false (fun hh => hh hlj)) ?_
      refine l_q rfl rfl (q_pickF rfl rfl rfl) ?_
      refine l_q rfl rfl (q_pickF rfl (decide_eq_false (fun hh => hh hlj)) rfl) ?_
      refine l_nil ?_
      refine hK50 _ _ ?_
      refine c_condF rfl rfl ?_
      refine wp_skip ?_
      refine hK49 _ _ ?_
      refine wp_seq_k (fun K52 hK52 => ?_)
      refine wp_seq_k (fun K53 hK53 => ?_)
      refine wp_region_lit ?_
      first | refine l_q rfl rfl (q_assignI rfl) ?_ | refine l_q rfl rfl (q_assign rfl) ?_
      refine l_nil ?_
      refine hK53 _ _ ?_
      refine wp_block ?_
      refine c_loop (τ := Nat × Unit) [(6, 6), (17, 17), (90, 117)] (fun x => [(17, .int .i64 ((x.1 : Nat) : Int))]) (fun x w' => St w (fun _ => False) [CO za zc s.e, CO ua uc (Er.join r.e s.e), .pool bsj ((jv, Er.join r.e s.e) :: (wv, r.e.wrap c a) :: es) ss, CO qa qc (r.e.wrap c a), CO pa pc r.e] w' ∧ x.1 ≤ r.e.list.length) (fun x => r.e.list.length - x.1) ((0, ())) ?_ (by repeat' (first | exact trivial | refine ⟨by first | rfl | exact int_succ _, ?_⟩)) (fun x54 j54 w54 hJ54 K54 hK54 => ?_)
      ·
        exact ⟨hS16.sub (by repeat' (first | exact List.Sublist.refl _ | exact List.nil_sublist _ | apply List.Sublist.cons_cons | apply List.Sublist.cons)), Nat.zero_le _⟩
      ·
        obtain ⟨k, u⟩ := x54; obtain ⟨hS54, hk⟩ := hJ54; dsimp only at hk hS54 ⊢
        refine wp_seq_k (fun K55 hK55 => ?_)
        refine wp_seq_k (fun K56 hK56 => ?_)
        refine wp_region_lit ?_
        first | refine l_q rfl rfl (q_moveI rfl) ?_ | refine l_q rfl rfl (q_move rfl) ?_
        first | refine l_q rfl rfl (q_moveS rfl) ?_ | refine l_q rfl rfl (q_move rfl) ?_
        refine l_q rfl rfl (q_lenSl (e := 23) rfl (by kernel_rfl)) ?_
        refine l_q rfl rfl (q_lss rfl rfl) ?_
        refine l_nil ?_
        refine hK56 _ _ ?_
        refine c_cond rfl (fun hc57 => ?_) (fun hc57 => ?_)
        ·
          have hc57b := hc57
          try simp only [decide_eq_true_eq, decide_eq_false_iff_not, Bool.not_eq_true', Bool.not_eq_false', Bool.and_eq_true, Bool.or_eq_true, Int.not_lt, Int.not_le, ne_eq, Decidable.not_not] at hc57
          have hlt := hc57
          obtain ⟨q, hq⟩ : ∃ q, r.e.list[k]? = some q := ⟨_, List.getElem?_eq_getElem (by omega)⟩
          have hc1 : ((r.e.wrap c a).list.map fun q => Value.int .i64 q.1)[((k : Int) + 0).toNat]? = some (.int .i64 q.1) := map_get (by
              rw [show ((k : Int) + 0).toNat = k + 0 by omega, hw]
              exact hq)
          have hc2 : ((r.e).list.map fun q => Value.int .i64 q.1)[(k : Int).toNat]? = some (.int .i64 q.1) := map_get hq
          have hc3 : ((Er.join r.e s.e).list.map fun q => Value.int .i64 q.1)[(k : Int).toNat]? = some (.int .i64 q.1) := map_get (by
              rw [Er.list_join]
              exact (List.getElem?_append_left (by omega)).trans hq)
          obtain ⟨qg, qd, hqe⟩ := own_some (hS54.sl (i := 3) rfl) (by omega)
          obtain ⟨pg, pd, hpe⟩ := own_some (hS54.sl (i := 4) rfl) (by omega)
          obtain ⟨ug, ud, hue⟩ := own_some (hS54.sl (i := 1) rfl) (by omega)
          refine wp_skip ?_
          refine hK55 _ _ ?_
          refine wp_seq_k (fun K58 hK58 => ?_)
          refine wp_block ?_
          refine wp_seq_k (fun K59 hK59 => ?_)
          refine r_any (by kernel_rfl) hS54 (fun w60 hS60 => ?_)
          clear hS54
          first | refine o_pure (i := 0) (fun _ _ => trivial) rfl rfl (by kernel_rfl) (goes0 rfl) (QOk.then (QOk.inBlock (QOk.then (QOk.then (QOk.inBlock (QOk.then QOk.body)))))) (fun w => q_moveS rfl) ?_ | refine o_pure (i := 0) (fun _ _ => trivial) rfl rfl (by kernel_rfl) (goes0 rfl) (QOk.then (QOk.inBlock (QOk.then (QOk.then (QOk.inBlock (QOk.then QOk.body)))))) (fun w => q_move rfl) ?_
          first | refine o_pure (i := 1) (fun _ _ => trivial) rfl rfl (by kernel_rfl) (goes0 rfl) (QOk.then (QOk.inBlock (QOk.then (QOk.then (QOk.inBlock (QOk.then QOk.body)))))) (fun w => q_moveI rfl) ?_ | refine o_pure (i := 1) (fun _ _ => trivial) rfl rfl (by kernel_rfl) (goes0 rfl) (QOk.then (QOk.inBlock (QOk.then (QOk.then (QOk.inBlock (QOk.then QOk.body)))))) (fun w => q_move rfl) ?_
          first | refine o_pure (i := 2) (fun _ _ => trivial) rfl rfl (by kernel_rfl) (goes0 rfl) (QOk.then (QOk.inBlock (QOk.then (QOk.then (QOk.inBlock (QOk.then QOk.body)))))) (fun w => q_moveI rfl) ?_ | refine o_pure (i := 2) (fun _ _ => trivial) rfl rfl (by kernel_rfl) (goes0 rfl) (QOk.then (QOk.inBlock (QOk.then (QOk.then (QOk.inBlock (QOk.then QOk.body)))))) (fun w => q_move rfl) ?_
          first | refine o_pure (i := 3) (fun _ _ => trivial) rfl rfl (by kernel_rfl) (goes0 rfl) (QOk.then (QOk.inBlock (QOk.then (QOk.then (QOk.inBlock (QOk.then QOk.body)))))) (fun w => q_addx rfl rfl (by first | decide | omega) (by first | decide | omega)) ?_ | refine o_pure (i := 3) (fun _ _ => trivial) rfl rfl (by kernel_rfl) (goes0 rfl) (QOk.then (QOk.inBlock (QOk.then (QOk.then (QOk.inBlock (QOk.then QOk.body)))))) (fun w => q_add rfl rfl) ?_
          refine o_pure (i := 4) (fun _ _ => trivial) rfl rfl (by kernel_rfl) (goes0 rfl) (QOk.then (QOk.inBlock (QOk.then (QOk.then (QOk.inBlock (QOk.then QOk.body)))))) (fun w => q_indexAddr (e := 23) (m := 1) hqe rfl (by kernel_rfl) (by kernel_rfl) (by first | decide | omega) (by first | decide | omega)) ?_
          refine o_held (i := 5) [10, 11, 12, 13, 14, 15, 16, 17, 18, 19, 20, 21] (fun _ _ => trivial) rfl rfl (by kernel_rfl) (goes0 rfl) (QOk.then (QOk.inBlock (QOk.then (QOk.then (QOk.inBlock (QOk.then QOk.body)))))) (q_load1 rfl (by kernel_rfl) (own_cellE (hS60.sl (i := 3) rfl) hqe hc1)) ?_
          first | refine o_pure (i := 6) (fun j w => ⟨(fun _ _ => trivial) j w, fun _ h => h⟩) rfl rfl (by kernel_rfl) (goes0 rfl) (QOk.then (QOk.inBlock (QOk.then (QOk.then (QOk.inBlock (QOk.then QOk.body)))))) (fun w => q_moveS rfl) ?_ | refine o_pure (i := 6) (fun j w => ⟨(fun _ _ => trivial) j w, fun _ h => h⟩) rfl rfl (by kernel_rfl) (goes0 rfl) (QOk.then (QOk.inBlock (QOk.then (QOk.then (QOk.inBlock (QOk.then QOk.body)))))) (fun w => q_move rfl) ?_
          first | refine o_pure (i := 7) (fun j w => ⟨(fun _ _ => trivial) j w, fun _ h => h⟩) rfl rfl (by kernel_rfl) (goes0 rfl) (QOk.then (QOk.inBlock (QOk.then (QOk.then (QOk.inBlock (QOk.then QOk.body)))))) (fun w => q_moveI rfl) ?_ | refine o_pure (i := 7) (fun j w => ⟨(fun _ _ => trivial) j w, fun _ h => h⟩) rfl rfl (by kernel_rfl) (goes0 rfl) (QOk.then (QOk.inBlock (QOk.then (QOk.then (QOk.inBlock (QOk.then QOk.body)))))) (fun w => q_move rfl) ?_
          refine o_pure (i := 8) (fun j w => ⟨(fun _ _ => trivial) j w, fun _ h => h⟩) rfl rfl (by kernel_rfl) (goes0 rfl) (QOk.then (QOk.inBlock (QOk.then (QOk.then (QOk.inBlock (QOk.then QOk.body)))))) (fun w => q_indexAddr (e := 23) (m := 1) hpe rfl (by kernel_rfl) (by kernel_rfl) (by first | decide | omega) (by first | decide | omega)) ?_
          refine o_held (i := 9) [10, 11, 12, 13, 14, 15, 16, 17, 18, 19, 20, 21] (fun j w => ⟨(fun _ _ => trivial) j w, fun _ h => h⟩) rfl rfl (by kernel_rfl) (goes0 rfl) (QOk.then (QOk.inBlock (QOk.then (QOk.then (QOk.inBlock (QOk.then QOk.body)))))) (q_load1 rfl (by kernel_rfl) (own_cellE (hS60.sl (i := 4) rfl) hpe hc2)) ?_
          refine o_pure (i := 10) (fun j w => ⟨(fun j w => ⟨(fun _ _ => trivial) j w, fun _ h => h⟩) j w, fun _ h => h⟩) rfl rfl (by kernel_rfl) (goes0 rfl) (QOk.then (QOk.inBlock (QOk.then (QOk.then (QOk.inBlock (QOk.then QOk.body)))))) (fun w => q_neq rfl rfl) ?_
          first | refine o_pure (i := 11) (fun j w => ⟨(fun j w => ⟨(fun _ _ => trivial) j w, fun _ h => h⟩) j w, fun _ h => h⟩) rfl rfl (by kernel_rfl) (goes0 rfl) (QOk.then (QOk.inBlock (QOk.then (QOk.then (QOk.inBlock (QOk.then QOk.body)))))) (fun w => q_moveB rfl) ?_ | refine o_pure (i := 11) (fun j w => ⟨(fun j w => ⟨(fun _ _ => trivial) j w, fun _ h => h⟩) j w, fun _ h => h⟩) rfl rfl (by kernel_rfl) (goes0 rfl) (QOk.then (QOk.inBlock (QOk.then (QOk.then (QOk.inBlock (QOk.then QOk.body)))))) (fun w => q_move rfl) ?_
          first | refine o_pure (i := 12) (fun j w => ⟨(fun j w => ⟨(fun _ _ => trivial) j w, fun _ h => h⟩) j w, fun _ h => h⟩) rfl rfl (by kernel_rfl) (goes1 rfl rfl (decide_eq_false (fun hh => hh rfl))) (QOk.then (QOk.inBlock (QOk.then (QOk.then (QOk.inBlock (QOk.then QOk.body)))))) (fun w => q_moveS rfl) ?_ | refine o_pure (i := 12) (fun j w => ⟨(fun j w => ⟨(fun _ _ => trivial) j w, fun _ h => h⟩) j w, fun _ h => h⟩) rfl rfl (by kernel_rfl) (goes1 rfl rfl (decide_eq_false (fun hh => hh rfl))) (QOk.then (QOk.inBlock (QOk.then (QOk.then (QOk.inBlock (QOk.then QOk.body)))))) (fun w => q_move rfl) ?_
          first | refine o_pure (i := 13) (fun j w => ⟨(fun j w => ⟨(fun _ _ => trivial) j w, fun _ h => h⟩) j w, fun _ h => h⟩) rfl rfl (by kernel_rfl) (goes1 rfl rfl (decide_eq_false (fun hh => hh rfl))) (QOk.then (QOk.inBlock (QOk.then (QOk.then (QOk.inBlock (QOk.then QOk.body)))))) (fun w => q_moveI rfl) ?_ | refine o_pure (i := 13) (fun j w => ⟨(fun j w => ⟨(fun _ _ => trivial) j w, fun _ h => h⟩) j w, fun _ h => h⟩) rfl rfl (by kernel_rfl) (goes1 rfl rfl (decide_eq_false (fun hh => hh rfl))) (QOk.then (QOk.inBlock (QOk.then (QOk.then (QOk.inBlock (QOk.then QOk.body)))))) (fun w => q_move rfl) ?_
          refine o_pure (i := 14) (fun j w => ⟨(fun j w => ⟨(fun _ _ => trivial) j w, fun _ h => h⟩) j w, fun _ h => h⟩) rfl rfl (by kernel_rfl) (goes1 rfl rfl (decide_eq_false (fun hh => hh rfl))) (QOk.then (QOk.inBlock (QOk.then (QOk.then (QOk.inBlock (QOk.then QOk.body)))))) (fun w => q_indexAddr (e := 23) (m := 1) hue rfl (by kernel_rfl) (by kernel_rfl) (by first | decide | omega) (by first | decide | omega)) ?_
          refine o_held (i := 15) [20, 21] (fun j w => ⟨(fun j w => ⟨(fun _ _ => trivial) j w, fun _ h => h⟩) j w, fun _ h => h⟩) rfl rfl (by kernel_rfl) (goes1 rfl rfl (decide_eq_false (fun hh => hh rfl))) (QOk.then (QOk.inBlock (QOk.then (QOk.then (QOk.inBlock (QOk.then QOk.body)))))) (q_load1 rfl (by kernel_rfl) (own_cellE (hS60.sl (i := 1) rfl) hue hc3)) ?_
          first | refine o_pure (i := 16) (fun j w => ⟨(fun j w => ⟨(fun j w => ⟨(fun _ _ => trivial) j w, fun _ h => h⟩) j w, fun _ h => h⟩) j w, fun _ h => h⟩) rfl rfl (by kernel_rfl) (goes1 rfl rfl (decide_eq_false (fun hh => hh rfl))) (QOk.then (QOk.inBlock (QOk.then (QOk.then (QOk.inBlock (QOk.then QOk.body)))))) (fun w => q_moveS rfl) ?_ | refine o_pure (i := 16) (fun j w => ⟨(fun j w => ⟨(fun j w => ⟨(fun _ _ => trivial) j w, fun _ h => h⟩) j w, fun _ h => h⟩) j w, fun _ h => h⟩) rfl rfl (by kernel_rfl) (goes1 rfl rfl (decide_eq_false (fun hh => hh rfl))) (QOk.then (QOk.inBlock (QOk.then (QOk.then (QOk.inBlock (QOk.then QOk.body)))))) (fun w => q_move rfl) ?_
          first | refine o_pure (i := 17) (fun j w => ⟨(fun j w => ⟨(fun j w => ⟨(fun _ _ => trivial) j w, fun _ h => h⟩) j w, fun _ h => h⟩) j w, fun _ h => h⟩) rfl rfl (by kernel_rfl) (goes1 rfl rfl (decide_eq_false (fun hh => hh rfl))) (QOk.then (QOk.inBlock (QOk.then (QOk.then (QOk.inBlock (QOk.then QOk.body)))))) (fun w => q_moveI rfl) ?_ | refine o_pure (i := 17) (fun j w => ⟨(fun j w => ⟨(fun j w => ⟨(fun _ _ => trivial) j w, fun _ h => h⟩) j w, fun _ h => h⟩) j w, fun _ h => h⟩) rfl rfl (by kernel_rfl) (goes1 rfl rfl (decide_eq_false (fun hh => hh rfl))) (QOk.then (QOk.inBlock (QOk.then (QOk.then (QOk.inBlock (QOk.then QOk.body)))))) (fun w => q_move rfl) ?_
          refine o_pure (i := 18) (fun j w => ⟨(fun j w => ⟨(fun j w => ⟨(fun _ _ => trivial) j w, fun _ h => h⟩) j w, fun _ h => h⟩) j w, fun _ h => h⟩) rfl rfl (by kernel_rfl) (goes1 rfl rfl (decide_eq_false (fun hh => hh rfl))) (QOk.then (QOk.inBlock (QOk.then (QOk.then (QOk.inBlock (QOk.then QOk.body)))))) (fun w => q_indexAddr (e := 23) (m := 1) hpe rfl (by kernel_rfl) (by kernel_rfl) (by first | decide | omega) (by first | decide | omega)) ?_
          refine o_held (i := 19) [20, 21] (fun j w => ⟨(fun j w => ⟨(fun j w => ⟨(fun _ _ => trivial) j w, fun _ h => h⟩) j w, fun _ h => h⟩) j w, fun _ h => h⟩) rfl rfl (by kernel_rfl) (goes1 rfl rfl (decide_eq_false (fun hh => hh rfl))) (QOk.then (QOk.inBlock (QOk.then (QOk.then (QOk.inBlock (QOk.then QOk.body)))))) (q_load1 rfl (by kernel_rfl) (own_cellE (hS60.sl (i := 4) rfl) hpe hc2)) ?_
          refine o_pure (i := 20) (fun j w => ⟨(fun j w => ⟨(fun j w => ⟨(fun j w => ⟨(fun _ _ => trivial) j w, fun _ h => h⟩) j w, fun _ h => h⟩) j w, fun _ h => h⟩) j w, fun _ h => h⟩) rfl rfl (by kernel_rfl) (goes1 rfl rfl (decide_eq_false (fun hh => hh rfl))) (QOk.then (QOk.inBlock (QOk.then (QOk.then (QOk.inBlock (QOk.then QOk.body)))))) (fun w => q_neq rfl rfl) ?_
          refine o_pure (i := 21) (fun j w => ⟨(fun j w => ⟨(fun j w => ⟨(fun j w => ⟨(fun _ _ => trivial) j w, fun _ h => h⟩) j w, fun _ h => h⟩) j w, fun _ h => h⟩) j w, fun _ h => h⟩) rfl rfl (by kernel_rfl) (goes0 rfl) (QOk.then (QOk.inBlock (QOk.then (QOk.then (QOk.inBlock (QOk.then QOk.body)))))) (fun w => q_pickF rfl (decide_eq_false (fun hh => hh rfl)) rfl) ?_
          refine o_done (by kernel_rfl) ?_
          refine hK59 _ _ ?_
          refine c_condF rfl (decide_eq_false (fun hh => hh rfl)) ?_
          refine wp_skip ?_
          refine hK58 _ _ ?_
          refine wp_region_lit ?_
          first | refine l_q rfl rfl (q_moveI rfl) ?_ | refine l_q rfl rfl (q_move rfl) ?_
          first | refine l_q rfl rfl (q_addx rfl rfl (by first | decide | omega) (by first | decide | omega)) ?_ | refine l_q rfl rfl (q_add rfl rfl) ?_
          first | refine l_q rfl rfl (q_assignI rfl) ?_ | refine l_q rfl rfl (q_assign rfl) ?_
          refine l_nil ?_
          refine hK54 _ _ (came ((k + 1, ())) (by repeat' (first | exact Agree.refl _ _ | refine Agree.up ?_ rfl | refine Agree.hav2 ?_ rfl | refine Agree.ups2 ?_ rfl)) (by repeat' (first | exact trivial | refine ⟨by first | rfl | exact int_succ _, ?_⟩)) ?_)
          exact ⟨⟨hS60, by (show k + 1 ≤ r.e.list.length); omega⟩, by (show r.e.list.length - (k + 1) < r.e.list.length - k); omega⟩
        ·
          have hc57b := hc57
          try simp only [decide_eq_true_eq, decide_eq_false_iff_not, Bool.not_eq_true', Bool.not_eq_false', Bool.and_eq_true, Bool.or_eq_true, Int.not_lt, Int.not_le, ne_eq, Decidable.not_not] at hc57
          clear hk
          refine wp_exit ?_
          refine hK52 _ _ ?_
          refine wp_seq_k (fun K62 hK62 => ?_)
          refine wp_seq_k (fun K63 hK63 => ?_)
          refine wp_region_lit ?_
          first | refine l_q rfl rfl (q_assignI rfl) ?_ | refine l_q rfl rfl (q_assign rfl) ?_
          refine l_nil ?_
          refine hK63 _ _ ?_
          refine wp_block ?_
          refine c_loop (τ := Nat × Unit) [(6, 6), (18, 18), (118, 135)] (fun x => [(18, .int .i64 ((x.1 : Nat) : Int))]) (fun x w' => St w (fun _ => False) [CO za zc s.e, CO ua uc (Er.join r.e s.e), .pool bsj ((jv, Er.join r.e s.e) :: (wv, r.e.wrap c a) :: es) ss, CO qa qc (r.e.wrap c a), CO pa pc r.e] w' ∧ x.1 ≤ s.e.list.length) (fun x => s.e.list.length - x.1) ((0, ())) ?_ (by repeat' (first | exact trivial | refine ⟨by first | rfl | exact int_succ _, ?_⟩)) (fun x64 j64 w64 hJ64 K64 hK64 => ?_)
          ·
            exact ⟨hS54.sub (by repeat' (first | exact List.Sublist.refl _ | exact List.nil_sublist _ | apply List.Sublist.cons_cons | apply List.Sublist.cons)), Nat.zero_le _⟩
          ·
            obtain ⟨k, u⟩ := x64; obtain ⟨hS64, hk⟩ := hJ64; dsimp only at hk hS64 ⊢
            refine wp_seq_k (fun K65 hK65 => ?_)
            refine wp_seq_k (fun K66 hK66 => ?_)
            refine wp_region_lit ?_
            first | refine l_q rfl rfl (q_moveI rfl) ?_ | refine l_q rfl rfl (q_move rfl) ?_
            first | refine l_q rfl rfl (q_moveS rfl) ?_ | refine l_q rfl rfl (q_move rfl) ?_
            refine l_q rfl rfl (q_lenSl (e := 23) rfl (by kernel_rfl)) ?_
            refine l_q rfl rfl (q_lss rfl rfl) ?_
            refine l_nil ?_
            refine hK66 _ _ ?_
            refine c_cond rfl (fun hc67 => ?_) (fun hc67 => ?_)
            ·
              have hc67b := hc67
              try simp only [decide_eq_true_eq, decide_eq_false_iff_not, Bool.not_eq_true', Bool.not_eq_false', Bool.and_eq_true, Bool.or_eq_true, Int.not_lt, Int.not_le, ne_eq, Decidable.not_not] at hc67
              have hlt := hc67
              obtain ⟨q, hq⟩ : ∃ q, s.e.list[k]? = some q := ⟨_, List.getElem?_eq_getElem (by omega)⟩
              have hd1 : ((Er.join r.e s.e).list.map fun q => Value.int .i64 q.1)[((r.e.list.length : Int) + (k : Int)).toNat]? = some (.int .i64 q.1) := map_get (by
                  rw [show ((r.e.list.length : Int) + (k : Int)).toNat = r.e.list.length + k by omega, Er.list_join, List.getElem?_append_right (by omega), Nat.add_sub_cancel_left]
                  exact hq)
              have hd2 : ((s.e).list.map fun q => Value.int .i64 q.1)[(k : Int).toNat]? = some (.int .i64 q.1) := map_get hq
              obtain ⟨zg, zd, hze⟩ := own_some (hS64.sl (i := 0) rfl) (by omega)
              obtain ⟨ug, ud, hue⟩ := own_some (hS64.sl (i := 1) rfl) (by omega)
              refine wp_skip ?_
              refine hK65 _ _ ?_
              refine wp_seq_k (fun K68 hK68 => ?_)
              refine wp_block ?_
              refine wp_seq_k (fun K69 hK69 => ?_)
              refine r_any (by kernel_rfl) hS64 (fun w70 hS70 => ?_)
              clear hS64
              first | refine o_pure (i := 0) (fun _ _ => trivial) rfl rfl (by kernel_rfl) (goes0 rfl) (QOk.then (QOk.inBlock (QOk.then (QOk.then (QOk.inBlock (QOk.then QOk.body)))))) (fun w => q_moveS rfl) ?_ | refine o_pure (i := 0) (fun _ _ => trivial) rfl rfl (by kernel_rfl) (goes0 rfl) (QOk.then (QOk.inBlock (QOk.then (QOk.then (QOk.inBlock (QOk.then QOk.body)))))) (fun w => q_move rfl) ?_
              first | refine o_pure (i := 1) (fun _ _ => trivial) rfl rfl (by kernel_rfl) (goes0 rfl) (QOk.then (QOk.inBlock (QOk.then (QOk.then (QOk.inBlock (QOk.then QOk.body)))))) (fun w => q_moveS rfl) ?_ | refine o_pure (i := 1) (fun _ _ => trivial) rfl rfl (by kernel_rfl) (goes0 rfl) (QOk.then (QOk.inBlock (QOk.then (QOk.then (QOk.inBlock (QOk.then QOk.body)))))) (fun w => q_move rfl) ?_
              refine o_pure (i := 2) (fun _ _ => trivial) rfl rfl (by kernel_rfl) (goes0 rfl) (QOk.then (QOk.inBlock (QOk.then (QOk.then (QOk.inBlock (QOk.then QOk.body)))))) (fun w => q_lenSl (e := 23) rfl (by kernel_rfl)) ?_
              first | refine o_pure (i := 3) (fun _ _ => trivial) rfl rfl (by kernel_rfl) (goes0 rfl) (QOk.then (QOk.inBlock (QOk.then (QOk.then (QOk.inBlock (QOk.then QOk.body)))))) (fun w => q_moveI rfl) ?_ | refine o_pure (i := 3) (fun _ _ => trivial) rfl rfl (by kernel_rfl) (goes0 rfl) (QOk.then (QOk.inBlock (QOk.then (QOk.then (QOk.inBlock (QOk.then QOk.body)))))) (fun w => q_move rfl) ?_
              first | refine o_pure (i := 4) (fun _ _ => trivial) rfl rfl (by kernel_rfl) (goes0 rfl) (QOk.then (QOk.inBlock (QOk.then (QOk.then (QOk.inBlock (QOk.then QOk.body)))))) (fun w => q_addx rfl rfl (by first | decide | omega) (by first | decide | omega)) ?_ | refine o_pure (i := 4) (fun _ _ => trivial) rfl rfl (by kernel_rfl) (goes0 rfl) (QOk.then (QOk.inBlock (QOk.then (QOk.then (QOk.inBlock (QOk.then QOk.body)))))) (fun w => q_add rfl rfl) ?_
              refine o_pure (i := 5) (fun _ _ => trivial) rfl rfl (by kernel_rfl) (goes0 rfl) (QOk.then (QOk.inBlock (QOk.then (QOk.then (QOk.inBlock (QOk.then QOk.body)))))) (fun w => q_indexAddr (e := 23) (m := 1) hue rfl (by kernel_rfl) (by kernel_rfl) (by first | decide | omega) (by first | decide | omega)) ?_
              refine o_held (i := 6) [11] (fun _ _ => trivial) rfl rfl (by kernel_rfl) (goes0 rfl) (QOk.then (QOk.inBlock (QOk.then (QOk.then (QOk.inBlock (QOk.then QOk.body)))))) (q_load1 rfl (by kernel_rfl) (own_cellE (hS70.sl (i := 1) rfl) hue hd1)) ?_
              first | refine o_pure (i := 7) (fun j w => ⟨(fun _ _ => trivial) j w, fun _ h => h⟩) rfl rfl (by kernel_rfl) (goes0 rfl) (QOk.then (QOk.inBlock (QOk.then (QOk.then (QOk.inBlock (QOk.then QOk.body)))))) (fun w => q_moveS rfl) ?_ | refine o_pure (i := 7) (fun j w => ⟨(fun _ _ => trivial) j w, fun _ h => h⟩) rfl rfl (by kernel_rfl) (goes0 rfl) (QOk.then (QOk.inBlock (QOk.then (QOk.then (QOk.inBlock (QOk.then QOk.body)))))) (fun w => q_move rfl) ?_
              first | refine o_pure (i := 8) (fun j w => ⟨(fun _ _ => trivial) j w, fun _ h => h⟩) rfl rfl (by kernel_rfl) (goes0 rfl) (QOk.then (QOk.inBlock (QOk.then (QOk.then (QOk.inBlock (QOk.then QOk.body)))))) (fun w => q_moveI rfl) ?_ | refine o_pure (i := 8) (fun j w => ⟨(fun _ _ => trivial) j w, fun _ h => h⟩) rfl rfl (by kernel_rfl) (goes0 rfl) (QOk.then (QOk.inBlock (QOk.then (QOk.then (QOk.inBlock (QOk.then QOk.body)))))) (fun w => q_move rfl) ?_
              refine o_pure (i := 9) (fun j w => ⟨(fun _ _ => trivial) j w, fun _ h => h⟩) rfl rfl (by kernel_rfl) (goes0 rfl) (QOk.then (QOk.inBlock (QOk.then (QOk.then (QOk.inBlock (QOk.then QOk.body)))))) (fun w => q_indexAddr (e := 23) (m := 1) hze rfl (by kernel_rfl) (by kernel_rfl) (by first | decide | omega) (by first | decide | omega)) ?_
              refine o_held (i := 10) [11] (fun j w => ⟨(fun _ _ => trivial) j w, fun _ h => h⟩) rfl rfl (by kernel_rfl) (goes0 rfl) (QOk.then (QOk.inBlock (QOk.then (QOk.then (QOk.inBlock (QOk.then QOk.body)))))) (q_load1 rfl (by kernel_rfl) (own_cellE (hS70.sl (i := 0) rfl) hze hd2)) ?_
              refine o_pure (i := 11) (fun j w => ⟨(fun j w => ⟨(fun _ _ => trivial) j w, fun _ h => h⟩) j w, fun _ h => h⟩) rfl rfl (by kernel_rfl) (goes0 rfl) (QOk.then (QOk.inBlock (QOk.then (QOk.then (QOk.inBlock (QOk.then QOk.body)))))) (fun w => q_neq rfl rfl) ?_
              refine o_done (by kernel_rfl) ?_
              refine hK69 _ _ ?_
              refine c_condF rfl (decide_eq_false (fun hh => hh rfl)) ?_
              refine wp_skip ?_
              refine hK68 _ _ ?_
              refine wp_region_lit ?_
              first | refine l_q rfl rfl (q_moveI rfl) ?_ | refine l_q rfl rfl (q_move rfl) ?_
              first | refine l_q rfl rfl (q_addx rfl rfl (by first | decide | omega) (by first | decide | omega)) ?_ | refine l_q rfl rfl (q_add rfl rfl) ?_
              first | refine l_q rfl rfl (q_assignI rfl) ?_ | refine l_q rfl rfl (q_assign rfl) ?_
              refine l_nil ?_
              refine hK64 _ _ (came ((k + 1, ())) (by repeat' (first | exact Agree.refl _ _ | refine Agree.up ?_ rfl | refine Agree.hav2 ?_ rfl | refine Agree.ups2 ?_ rfl)) (by repeat' (first | exact trivial | refine ⟨by first | rfl | exact int_succ _, ?_⟩)) ?_)
              exact ⟨⟨hS70, by (show k + 1 ≤ s.e.list.length); omega⟩, by (show s.e.list.length - (k + 1) < s.e.list.length - k); omega⟩
            ·
              have hc67b := hc67
              try simp only [decide_eq_true_eq, decide_eq_false_iff_not, Bool.not_eq_true', Bool.not_eq_false', Bool.and_eq_true, Bool.or_eq_true, Int.not_lt, Int.not_le, ne_eq, Decidable.not_not] at hc67
              refine wp_exit ?_
              refine hK62 _ _ ?_
              refine wp_seq_k (fun K72 hK72 => ?_)
              refine wp_region_lit ?_
              refine l_e rfl (fun K hK => ?_)
              refine e_call (by kernel_rfl) (alive_ok _ (hl.keep id hS64)) rfl (after_R hS64 (fun v73 w73 hv73 hS73 => ?_))
              clear hS64; replace hv73 := hv73.symm; subst hv73
              refine hK _ _ ?_; clear hK K
              first | refine l_q rfl rfl (q_moveB rfl) ?_ | refine l_q rfl rfl (q_move rfl) ?_
              refine l_on rfl rfl rfl ?_
              refine l_q rfl rfl (q_move rfl) ?_
              refine l_on rfl rfl rfl ?_
              refine l_e rfl (fun K hK => ?_)
              refine e_call (by kernel_rfl) (Codes_ok r.e _ _ (by first | decide | omega) (hl.keep id hS73) (pool_er hS73 (i := 2) rfl (.tail _ (.tail _ hr1)))) rfl (after_N hS73 (fun v74 G74 w74 hv74 hS74 => ?_))
              clear hS73; subst hv74; obtain ⟨ya, yc, rfl⟩ := own_slice (hS74.sl (i := 0) rfl)
              refine hK _ _ ?_; clear hK K
              refine l_on rfl rfl rfl ?_
              refine l_q rfl rfl (q_lenSl (e := 23) rfl (by kernel_rfl)) ?_
              refine l_on rfl rfl rfl ?_
              first | refine l_q rfl rfl (q_moveS rfl) ?_ | refine l_q rfl rfl (q_move rfl) ?_
              refine l_on rfl rfl rfl ?_
              refine l_q rfl rfl (q_lenSl (e := 23) rfl (by kernel_rfl)) ?_
              refine l_on rfl rfl rfl ?_
              refine l_q rfl rfl (q_eql rfl rfl) ?_
              refine l_q rfl rfl (q_pickT rfl rfl rfl) ?_
              first | refine l_q rfl rfl (q_assignB rfl) ?_ | refine l_q rfl rfl (q_assign rfl) ?_
              refine l_nil ?_
              refine hK72 _ _ ?_
              refine wp_ret ?_
              refine c_ret1 rfl rfl ?_
              exact ⟨_, rfl, (show _ = Value.bool (decide (((r.e.list.length : Nat) : Int) = ((r.e.list.length : Nat) : Int))) from rfl).trans (by rw [decide_eq_true rfl]), hS74.drop⟩
    ·
      have hc48b := hc48
      try simp only [decide_eq_true_eq, decide_eq_false_iff_not, Bool.not_eq_true', Bool.not_eq_false', Bool.and_eq_true, Bool.or_eq_true, Int.not_lt, Int.not_le, ne_eq, Decidable.not_not] at hc48
      have hc0 := hc48
      have hw : r.e.wrap c a = .flt c a r.e := by rw [Er.wrap, if_neg (fun h => h.elim (fun h => by rw [hrn2] at h; cases h) hc0)]
      have hwl2 : ((r.e.wrap c a).list.length : Int) = (r.e.list.length : Int) + 1 := by rw [hw]; show (((r.e.list.length + 1 : Nat)) : Int) = _; omega
      refine wp_skip ?_
      refine hK18 _ _ ?_
      refine wp_seq_k (fun K75 hK75 => ?_)
      refine wp_seq_k (fun K76 hK76 => ?_)
      refine wp_region_lit ?_
      first | refine l_q rfl rfl (q_moveS rfl) ?_ | refine l_q rfl rfl (q_move rfl) ?_
      refine l_q rfl rfl (q_lenSl (e := 23) rfl (by kernel_rfl)) ?_
      first | refine l_q rfl rfl (q_moveS rfl) ?_ | refine l_q rfl rfl (q_move rfl) ?_
      refine l_q rfl rfl (q_lenSl (e := 23) rfl (by kernel_rfl)) ?_
      first | refine l_q rfl rfl (q_moveI rfl) ?_ | refine l_q rfl rfl (q_move rfl) ?_
      first | refine l_q rfl rfl (q_addx rfl rfl (by first | decide | omega) (by first | decide | omega)) ?_ | refine l_q rfl rfl (q_add rfl rfl) ?_
      refine l_q rfl rfl (q_neq rfl rfl) ?_
      first | refine l_q rfl rfl (q_moveB rfl) ?_ | refine l_q rfl rfl (q_move rfl) ?_
      refine l_on rfl rfl (decide_eq_false (fun hh => hh hwl2)) ?_
      first | refine l_q rfl rfl (q_moveS rfl) ?_ | refine l_q rfl rfl (q_move rfl) ?_
      refine l_on rfl rfl (decide_eq_false (fun hh => hh hwl2)) ?_
      refine l_q rfl rfl (q_lenSl (e := 23) rfl (by kernel_rfl)) ?_
      refine l_on rfl rfl (decide_eq_false (fun hh => hh hwl2)) ?_
      first | refine l_q rfl rfl (q_moveS rfl) ?_ | refine l_q rfl rfl (q_move rfl) ?_
      refine l_on rfl rfl (decide_eq_false (fun hh => hh hwl2)) ?_
      refine l_q rfl rfl (q_lenSl (e := 23) rfl (by kernel_rfl)) ?_
      refine l_on rfl rfl (decide_eq_false (fun hh => hh hwl2)) ?_
      first | refine l_q rfl rfl (q_moveS rfl) ?_ | refine l_q rfl rfl (q_move rfl) ?_
      refine l_on rfl rfl (decide_eq_false (fun hh => hh hwl2)) ?_
      refine l_q rfl rfl (q_lenSl (e := 23) rfl (by kernel_rfl)) ?_
      refine l_on rfl rfl (decide_eq_false (fun hh => hh hwl2)) ?_
      first | refine l_q rfl rfl (q_addx rfl rfl (by first | decide | omega) (by first | decide | omega)) ?_ | refine l_q rfl rfl (q_add rfl rfl) ?_
      refine l_on rfl rfl (decide_eq_false (fun hh => hh hwl2)) ?_
      refine l_q rfl rfl (q_neq rfl rfl) ?_
      refine l_q rfl rfl (q_pickF rfl (decide_eq_false (fun hh => hh hwl2)) rfl) ?_
      first | refine l_q rfl rfl (q_moveB rfl) ?_ | refine l_q rfl rfl (q_move rfl) ?_
      refine l_on rfl rfl (decide_eq_false (fun hh => hh hlj)) ?_
      first | refine l_q rfl rfl (q_moveI rfl) ?_ | refine l_q rfl rfl (q_move rfl) ?_
      refine l_on rfl rfl (decide_eq_false (fun hh => hh hlj)) ?_
      refine l_q rfl rfl (q_eql rfl rfl) ?_
      refine l_on rfl rfl (decide_eq_false (fun hh => hh hlj)) ?_
      first | refine l_q rfl rfl (q_moveB rfl) ?_ | refine l_q rfl rfl (q_move rfl) ?_
      refine l_on rfl rfl rfl ?_
      first | refine l_q rfl rfl (q_moveS rfl) ?_ | refine l_q rfl rfl (q_move rfl) ?_
      obtain ⟨qg, qd, hqe⟩ := own_some (hS16.sl (i := 3) rfl) (by omega)
      have hl0 : ((r.e.wrap c a).list.map fun q => Value.int .i64 q.1)[(0 : Int).toNat]? = some (.int .i64 c) := by rw [hw]; rfl
      have hpl : plc (r.e.wrap c a) = a := by rw [hw]; rfl
      refine l_on rfl rfl rfl ?_
      refine l_q rfl rfl (q_indexAddr (e := 23) (m := 1) hqe rfl (by kernel_rfl) (by kernel_rfl) (by first | decide | omega) (by first | decide | omega)) ?_
      refine l_on rfl rfl rfl ?_
      refine l_q rfl rfl (q_load1 rfl (by kernel_rfl) (own_cellE (hS16.sl (i := 3) rfl) hqe hl0)) ?_
      refine l_on rfl rfl rfl ?_
      first | refine l_q rfl rfl (q_moveI rfl) ?_ | refine l_q rfl rfl (q_move rfl) ?_
      refine l_on rfl rfl rfl ?_
      refine l_q rfl rfl (q_neq rfl rfl) ?_
      refine l_on rfl rfl rfl ?_
      first | refine l_q rfl rfl (q_moveB rfl) ?_ | refine l_q rfl rfl (q_move rfl) ?_
      refine l_on rfl rfl (decide_eq_false (fun hh => hh rfl)) ?_
      refine l_q rfl rfl (q_move rfl) ?_
      refine l_on rfl rfl (decide_eq_false (fun hh => hh rfl)) ?_
      refine l_e rfl (fun K hK => ?_)
      refine e_call (by kernel_rfl) (At_ok (r.e.wrap c a) hgw _ _ (hl.keep id hS16) (pool_er hS16 (i := 2) rfl (.tail _ (.head _)))) rfl (after_R hS16 (fun v77 w77 hv77 hS77 => ?_))
      clear hS16; replace hv77 := hv77.symm; subst hv77
      refine hK _ _ ?_; clear hK K
      refine l_on rfl rfl (decide_eq_false (fun hh => hh rfl)) ?_
      first | refine l_q rfl rfl (q_moveI rfl) ?_ | refine l_q rfl rfl (q_move rfl) ?_
      refine l_on rfl rfl (decide_eq_false (fun hh => hh rfl)) ?_
      refine l_q rfl rfl (q_neq rfl rfl) ?_
      refine l_on rfl rfl rfl ?_
      refine l_q rfl rfl (q_pickF rfl (decide_eq_false (fun hh => hh rfl)) rfl) ?_
      refine l_on rfl rfl (decide_eq_false (fun hh => hh hlj)) ?_
      refine l_q rfl rfl (q_pickT rfl rfl rfl) ?_
      refine l_q rfl rfl (q_pickF rfl (decide_eq_false (fun hh => hh hlj)) rfl) ?_
      refine l_nil ?_
      refine hK76 _ _ ?_
      refine c_condF rfl (decide_eq_false (fun hh => hh hpl)) ?_
      refine wp_skip ?_
      refine hK75 _ _ ?_
      refine wp_seq_k (fun K79 hK79 => ?_)
      refine wp_seq_k (fun K80 hK80 => ?_)
      refine wp_region_lit ?_
      first | refine l_q rfl rfl (q_assignI rfl) ?_ | refine l_q rfl rfl (q_assign rfl) ?_
      refine l_nil ?_
      refine hK80 _ _ ?_
      refine wp_block ?_
      refine c_loop (τ := Nat × Unit) [(6, 6), (17, 17), (90, 117)] (fun x => [(17, .int .i64 ((x.1 : Nat) : Int))]) (fun x w' => St w (fun _ => False) [CO za zc s.e, CO ua uc (Er.join r.e s.e), .pool bsj ((jv, Er.join r.e s.e) :: (wv, r.e.wrap c a) :: es) ss, CO qa qc (r.e.wrap c a), CO pa pc r.e] w' ∧ x.1 ≤ r.e.list.length) (fun x => r.e.list.length - x.1) ((0, ())) ?_ (by repeat' (first | exact trivial | refine ⟨by first | rfl | exact int_succ _, ?_⟩)) (fun x81 j81 w81 hJ81 K81 hK81 => ?_)
      ·
        exact ⟨hS77.sub (by repeat' (first | exact List.Sublist.refl _ | exact List.nil_sublist _ | apply List.Sublist.cons_cons | apply List.Sublist.cons)), Nat.zero_le _⟩
      ·
        obtain ⟨k, u⟩ := x81; obtain ⟨hS81, hk⟩ := hJ81; dsimp only at hk hS81 ⊢
        refine wp_seq_k (fun K82 hK82 => ?_)
        refine wp_seq_k (fun K83 hK83 => ?_)
        refine wp_region_lit ?_
        first | refine l_q rfl rfl (q_moveI rfl) ?_ | refine l_q rfl rfl (q_move rfl) ?_
        first | refine l_q rfl rfl (q_moveS rfl) ?_ | refine l_q rfl rfl (q_move rfl) ?_
        refine l_q rfl rfl (q_lenSl (e := 23) rfl (by kernel_rfl)) ?_
        refine l_q rfl rfl (q_lss rfl rfl) ?_
        refine l_nil ?_
        refine hK83 _ _ ?_
        refine c_cond rfl (fun hc84 => ?_) (fun hc84 => ?_)
        ·
          have hc84b := hc84
          try simp only [decide_eq_true_eq, decide_eq_false_iff_not, Bool.not_eq_true', Bool.not_eq_false', Bool.and_eq_true, Bool.or_eq_true, Int.not_lt, Int.not_le, ne_eq, Decidable.not_not] at hc84
          have hlt := hc84
          obtain ⟨q, hq⟩ : ∃ q, r.e.list[k]? = some q := ⟨_, List.getElem?_eq_getElem (by omega)⟩
          have hc1 : ((r.e.wrap c a).list.map fun q => Value.int .i64 q.1)[((k : Int) + 1).toNat]? = some (.int .i64 q.1) := map_get (by
              rw [show ((k : Int) + 1).toNat = k + 1 by omega, hw]
              show ((c, a) :: r.e.list)[k + 1]? = _; rw [List.getElem?_cons_succ]; exact hq)
          have hc2 : ((r.e).list.map fun q => Value.int .i64 q.1)[(k : Int).toNat]? = some (.int .i64 q.1) := map_get hq
          have hc3 : ((Er.join r.e s.e).list.map fun q => Value.int .i64 q.1)[(k : Int).toNat]? = some (.int .i64 q.1) := map_get (by
              rw [Er.list_join]
              exact (List.getElem?_append_left (by omega)).trans hq)
          obtain ⟨pg, pd, hpe⟩ := own_some (hS81.sl (i := 4) rfl) (by omega)
          obtain ⟨ug, ud, hue⟩ := own_some (hS81.sl (i := 1) rfl) (by omega)
          refine wp_skip ?_
          refine hK82 _ _ ?_
          refine wp_seq_k (fun K85 hK85 => ?_)
          refine wp_block ?_
          refine wp_seq_k (fun K86 hK86 => ?_)
          refine r_any (by kernel_rfl) hS81 (fun w87 hS87 => ?_)
          clear hS81
          first | refine o_pure (i := 0) (fun _ _ => trivial) rfl rfl (by kernel_rfl) (goes0 rfl) (QOk.then (QOk.inBlock (QOk.then (QOk.then (QOk.inBlock (QOk.then QOk.body)))))) (fun w => q_moveS rfl) ?_ | refine o_pure (i := 0) (fun _ _ => trivial) rfl rfl (by kernel_rfl) (goes0 rfl) (QOk.then (QOk.inBlock (QOk.then (QOk.then (QOk.inBlock (QOk.then QOk.body)))))) (fun w => q_move rfl) ?_
          first | refine o_pure (i := 1) (fun _ _ => trivial) rfl rfl (by kernel_rfl) (goes0 rfl) (QOk.then (QOk.inBlock (QOk.then (QOk.then (QOk.inBlock (QOk.then QOk.body)))))) (fun w => q_moveI rfl) ?_ | refine o_pure (i := 1) (fun _ _ => trivial) rfl rfl (by kernel_rfl) (goes0 rfl) (QOk.then (QOk.inBlock (QOk.then (QOk.then (QOk.inBlock (QOk.then QOk.body)))))) (fun w => q_move rfl) ?_
          first | refine o_pure (i := 2) (fun _ _ => trivial) rfl rfl (by kernel_rfl) (goes0 rfl) (QOk.then (QOk.inBlock (QOk.then (QOk.then (QOk.inBlock (QOk.then QOk.body)))))) (fun w => q_moveI rfl) ?_ | refine o_pure (i := 2) (fun _ _ => trivial) rfl rfl (by kernel_rfl) (goes0 rfl) (QOk.then (QOk.inBlock (QOk.then (QOk.then (QOk.inBlock (QOk.then QOk.body)))))) (fun w => q_move rfl) ?_
          first | refine o_pure (i := 3) (fun _ _ => trivial) rfl rfl (by kernel_rfl) (goes0 rfl) (QOk.then (QOk.inBlock (QOk.then (QOk.then (QOk.inBlock (QOk.then QOk.body)))))) (fun w => q_addx rfl rfl (by first | decide | omega) (by first | decide | omega)) ?_ | refine o_pure (i := 3) (fun _ _ => trivial) rfl rfl (by kernel_rfl) (goes0 rfl) (QOk.then (QOk.inBlock (QOk.then (QOk.then (QOk.inBlock (QOk.then QOk.body)))))) (fun w => q_add rfl rfl) ?_
          refine o_pure (i := 4) (fun _ _ => trivial) rfl rfl (by kernel_rfl) (goes0 rfl) (QOk.then (QOk.inBlock (QOk.then (QOk.then (QOk.inBlock (QOk.then QOk.body)))))) (fun w => q_indexAddr (e := 23) (m := 1) hqe rfl (by kernel_rfl) (by kernel_rfl) (by first | decide | omega) (by first | decide | omega)) ?_
          refine o_held (i := 5) [10, 11, 12, 13, 14, 15, 16, 17, 18, 19, 20, 21] (fun _ _ => trivial) rfl rfl (by kernel_rfl) (goes0 rfl) (QOk.then (QOk.inBlock (QOk.then (QOk.then (QOk.inBlock (QOk.then QOk.body)))))) (q_load1 rfl (by kernel_rfl) (own_cellE (hS87.sl (i := 3) rfl) hqe hc1)) ?_
          first | refine o_pure (i := 6) (fun j w => ⟨(fun _ _ => trivial) j w, fun _ h => h⟩) rfl rfl (by kernel_rfl) (goes0 rfl) (QOk.then (QOk.inBlock (QOk.then (QOk.then (QOk.inBlock (QOk.then QOk.body)))))) (fun w => q_moveS rfl) ?_ | refine o_pure (i := 6) (fun j w => ⟨(fun _ _ => trivial) j w, fun _ h => h⟩) rfl rfl (by kernel_rfl) (goes0 rfl) (QOk.then (QOk.inBlock (QOk.then (QOk.then (QOk.inBlock (QOk.then QOk.body)))))) (fun w => q_move rfl) ?_
          first | refine o_pure (i := 7) (fun j w => ⟨(fun _ _ => trivial) j w, fun _ h => h⟩) rfl rfl (by kernel_rfl) (goes0 rfl) (QOk.then (QOk.inBlock (QOk.then (QOk.then (QOk.inBlock (QOk.then QOk.body)))))) (fun w => q_moveI rfl) ?_ | refine o_pure (i := 7) (fun j w => ⟨(fun _ _ => trivial) j w, fun _ h => h⟩) rfl rfl (by kernel_rfl) (goes0 rfl) (QOk.then (QOk.inBlock (QOk.then (QOk.then (QOk.inBlock (QOk.then QOk.body)))))) (fun w => q_move rfl) ?_
          refine o_pure (i := 8) (fun j w => ⟨(fun _ _ => trivial) j w, fun _ h => h⟩) rfl rfl (by kernel_rfl) (goes0 rfl) (QOk.then (QOk.inBlock (QOk.then (QOk.then (QOk.inBlock (QOk.then QOk.body)))))) (fun w => q_indexAddr (e := 23) (m := 1) hpe rfl (by kernel_rfl) (by kernel_rfl) (by first | decide | omega) (by first | decide | omega)) ?_
          refine o_held (i := 9) [10, 11, 12, 13, 14, 15, 16, 17, 18, 19, 20, 21] (fun j w => ⟨(fun _ _ => trivial) j w, fun _ h => h⟩) rfl rfl (by kernel_rfl) (goes0 rfl) (QOk.then (QOk.inBlock (QOk.then (QOk.then (QOk.inBlock (QOk.then QOk.body)))))) (q_load1 rfl (by kernel_rfl) (own_cellE (hS87.sl (i := 4) rfl) hpe hc2)) ?_
          refine o_pure (i := 10) (fun j w => ⟨(fun j w => ⟨(fun _ _ => trivial) j w, fun _ h => h⟩) j w, fun _ h => h⟩) rfl rfl (by kernel_rfl) (goes0 rfl) (QOk.then (QOk.inBlock (QOk.then (QOk.then (QOk.inBlock (QOk.then QOk.body)))))) (fun w => q_neq rfl rfl) ?_
          first | refine o_pure (i := 11) (fun j w => ⟨(fun j w => ⟨(fun _ _ => trivial) j w, fun _ h => h⟩) j w, fun _ h => h⟩) rfl rfl (by kernel_rfl) (goes0 rfl) (QOk.then (QOk.inBlock (QOk.then (QOk.then (QOk.inBlock (QOk.then QOk.body)))))) (fun w => q_moveB rfl) ?_ | refine o_pure (i := 11) (fun j w => ⟨(fun j w => ⟨(fun _ _ => trivial) j w, fun _ h => h⟩) j w, fun _ h => h⟩) rfl rfl (by kernel_rfl) (goes0 rfl) (QOk.then (QOk.inBlock (QOk.then (QOk.then (QOk.inBlock (QOk.then QOk.body)))))) (fun w => q_move rfl) ?_
          first | refine o_pure (i := 12) (fun j w => ⟨(fun j w => ⟨(fun _ _ => trivial) j w, fun _ h => h⟩) j w, fun _ h => h⟩) rfl rfl (by kernel_rfl) (goes1 rfl rfl (decide_eq_false (fun hh => hh rfl))) (QOk.then (QOk.inBlock (QOk.then (QOk.then (QOk.inBlock (QOk.then QOk.body)))))) (fun w => q_moveS rfl) ?_ | refine o_pure (i := 12) (fun j w => ⟨(fun j w => ⟨(fun _ _ => trivial) j w, fun _ h => h⟩) j w, fun _ h => h⟩) rfl rfl (by kernel_rfl) (goes1 rfl rfl (decide_eq_false (fun hh => hh rfl))) (QOk.then (QOk.inBlock (QOk.then (QOk.then (QOk.inBlock (QOk.then QOk.body)))))) (fun w => q_move rfl) ?_
          first | refine o_pure (i := 13) (fun j w => ⟨(fun j w => ⟨(fun _ _ => trivial) j w, fun _ h => h⟩) j w, fun _ h => h⟩) rfl rfl (by kernel_rfl) (goes1 rfl rfl (decide_eq_false (fun hh => hh rfl))) (QOk.then (QOk.inBlock (QOk.then (QOk.then (QOk.inBlock (QOk.then QOk.body)))))) (fun w => q_moveI rfl) ?_ | refine o_pure (i := 13) (fun j w => ⟨(fun j w => ⟨(fun _ _ => trivial) j w, fun _ h => h⟩) j w, fun _ h => h⟩) rfl rfl (by kernel_rfl) (goes1 rfl rfl (decide_eq_false (fun hh => hh rfl))) (QOk.then (QOk.inBlock (QOk.then (QOk.then (QOk.inBlock (QOk.then QOk.body)))))) (fun w => q_move rfl) ?_
          refine o_pure (i := 14) (fun j w => ⟨(fun j w => ⟨(fun _ _ => trivial) j w, fun _ h => h⟩) j w, fun _ h => h⟩) rfl rfl (by kernel_rfl) (goes1 rfl rfl (decide_eq_false (fun hh => hh rfl))) (QOk.then (QOk.inBlock (QOk.then (QOk.then (QOk.inBlock (QOk.then QOk.body)))))) (fun w => q_indexAddr (e := 23) (m := 1) hue rfl (by kernel_rfl) (by kernel_rfl) (by first | decide | omega) (by first | decide | omega)) ?_
          refine o_held (i := 15) [20, 21] (fun j w => ⟨(fun j w => ⟨(fun _ _ => trivial) j w, fun _ h => h⟩) j w, fun _ h => h⟩) rfl rfl (by kernel_rfl) (goes1 rfl rfl (decide_eq_false (fun hh => hh rfl))) (QOk.then (QOk.inBlock (QOk.then (QOk.then (QOk.inBlock (QOk.then QOk.body)))))) (q_load1 rfl (by kernel_rfl) (own_cellE (hS87.sl (i := 1) rfl) hue hc3)) ?_
          first | refine o_pure (i := 16) (fun j w => ⟨(fun j w => ⟨(fun j w => ⟨(fun _ _ => trivial) j w, fun _ h => h⟩) j w, fun _ h => h⟩) j w, fun _ h => h⟩) rfl rfl (by kernel_rfl) (goes1 rfl rfl (decide_eq_false (fun hh => hh rfl))) (QOk.then (QOk.inBlock (QOk.then (QOk.then (QOk.inBlock (QOk.then QOk.body)))))) (fun w => q_moveS rfl) ?_ | refine o_pure (i := 16) (fun j w => ⟨(fun j w => ⟨(fun j w => ⟨(fun _ _ => trivial) j w, fun _ h => h⟩) j w, fun _ h => h⟩) j w, fun _ h => h⟩) rfl rfl (by kernel_rfl) (goes1 rfl rfl (decide_eq_false (fun hh => hh rfl))) (QOk.then (QOk.inBlock (QOk.then (QOk.then (QOk.inBlock (QOk.then QOk.body)))))) (fun w => q_move rfl) ?_
          first | refine o_pure (i := 17) (fun j w => ⟨(fun j w => ⟨(fun j w => ⟨(fun _ _ => trivial) j w, fun _ h => h⟩) j w, fun _ h => h⟩) j w, fun _ h => h⟩) rfl rfl (by kernel_rfl) (goes1 rfl rfl (decide_eq_false (fun hh => hh rfl))) (QOk.then (QOk.inBlock (QOk.then (QOk.then (QOk.inBlock (QOk.then QOk.body)))))) (fun w => q_moveI rfl) ?_ | refine o_pure (i := 17) (fun j w => ⟨(fun j w => ⟨(fun j w => ⟨(fun _ _ => trivial) j w, fun _ h => h⟩) j w, fun _ h => h⟩) j w, fun _ h => h⟩) rfl rfl (by kernel_rfl) (goes1 rfl rfl (decide_eq_false (fun hh => hh rfl))) (QOk.then (QOk.inBlock (QOk.then (QOk.then (QOk.inBlock (QOk.then QOk.body)))))) (fun w => q_move rfl) ?_
          refine o_pure (i := 18) (fun j w => ⟨(fun j w => ⟨(fun j w => ⟨(fun _ _ => trivial) j w, fun _ h => h⟩) j w, fun _ h => h⟩) j w, fun _ h => h⟩) rfl rfl (by kernel_rfl) (goes1 rfl rfl (decide_eq_false (fun hh => hh rfl))) (QOk.then (QOk.inBlock (QOk.then (QOk.then (QOk.inBlock (QOk.then QOk.body)))))) (fun w => q_indexAddr (e := 23) (m := 1) hpe rfl (by kernel_rfl) (by kernel_rfl) (by first | decide | omega) (by first | decide | omega)) ?_
          refine o_held (i := 19) [20, 21] (fun j w => ⟨(fun j w => ⟨(fun j w => ⟨(fun _ _ => trivial) j w, fun _ h => h⟩) j w, fun _ h => h⟩) j w, fun _ h => h⟩) rfl rfl (by kernel_rfl) (goes1 rfl rfl (decide_eq_false (fun hh => hh rfl))) (QOk.then (QOk.inBlock (QOk.then (QOk.then (QOk.inBlock (QOk.then QOk.body)))))) (q_load1 rfl (by kernel_rfl) (own_cellE (hS87.sl (i := 4) rfl) hpe hc2)) ?_
          refine o_pure (i := 20) (fun j w => ⟨(fun j w => ⟨(fun j w => ⟨(fun j w => ⟨(fun _ _ => trivial) j w, fun _ h => h⟩) j w, fun _ h => h⟩) j w, fun _ h => h⟩) j w, fun _ h => h⟩) rfl rfl (by kernel_rfl) (goes1 rfl rfl (decide_eq_false (fun hh => hh rfl))) (QOk.then (QOk.inBlock (QOk.then (QOk.then (QOk.inBlock (QOk.then QOk.body)))))) (fun w => q_neq rfl rfl) ?_
          refine o_pure (i := 21) (fun j w => ⟨(fun j w => ⟨(fun j w => ⟨(fun j w => ⟨(fun _ _ => trivial) j w, fun _ h => h⟩) j w, fun _ h => h⟩) j w, fun _ h => h⟩) j w, fun _ h => h⟩) rfl rfl (by kernel_rfl) (goes0 rfl) (QOk.then (QOk.inBlock (QOk.then (QOk.then (QOk.inBlock (QOk.then QOk.body)))))) (fun w => q_pickF rfl (decide_eq_false (fun hh => hh rfl)) rfl) ?_
          refine o_done (by kernel_rfl) ?_
          refine hK86 _ _ ?_
          refine c_condF rfl (decide_eq_false (fun hh => hh rfl)) ?_
          refine wp_skip ?_
          refine hK85 _ _ ?_
          refine wp_region_lit ?_
          first | refine l_q rfl rfl (q_moveI rfl) ?_ | refine l_q rfl rfl (q_move rfl) ?_
          first | refine l_q rfl rfl (q_addx rfl rfl (by first | decide | omega) (by first | decide | omega)) ?_ | refine l_q rfl rfl (q_add rfl rfl) ?_
          first | refine l_q rfl rfl (q_assignI rfl) ?_ | refine l_q rfl rfl (q_assign rfl) ?_
          refine l_nil ?_
          refine hK81 _ _ (came ((k + 1, ())) (by repeat' (first | exact Agree.refl _ _ | refine Agree.up ?_ rfl | refine Agree.hav2 ?_ rfl | refine Agree.ups2 ?_ rfl)) (by repeat' (first | exact trivial | refine ⟨by first | rfl | exact int_succ _, ?_⟩)) ?_)
          exact ⟨⟨hS87, by (show k + 1 ≤ r.e.list.length); omega⟩, by (show r.e.list.length - (k + 1) < r.e.list.length - k); omega⟩
        ·
          have hc84b := hc84
          try simp only [decide_eq_true_eq, decide_eq_false_iff_not, Bool.not_eq_true', Bool.not_eq_false', Bool.and_eq_true, Bool.or_eq_true, Int.not_lt, Int.not_le, ne_eq, Decidable.not_not] at hc84
          clear hk
          refine wp_exit ?_
          refine hK79 _ _ ?_
          refine wp_seq_k (fun K89 hK89 => ?_)
          refine wp_seq_k (fun K90 hK90 => ?_)
          refine wp_region_lit ?_
          first | refine l_q rfl rfl (q_assignI rfl) ?_ | refine l_q rfl rfl (q_assign rfl) ?_
          refine l_nil ?_
          refine hK90 _ _ ?_
          refine wp_block ?_
          refine c_loop (τ := Nat × Unit) [(6, 6), (18, 18), (118, 135)] (fun x => [(18, .int .i64 ((x.1 : Nat) : Int))]) (fun x w' => St w (fun _ => False) [CO za zc s.e, CO ua uc (Er.join r.e s.e), .pool bsj ((jv, Er.join r.e s.e) :: (wv, r.e.wrap c a) :: es) ss, CO qa qc (r.e.wrap c a), CO pa pc r.e] w' ∧ x.1 ≤ s.e.list.length) (fun x => s.e.list.length - x.1) ((0, ())) ?_ (by repeat' (first | exact trivial | refine ⟨by first | rfl | exact int_succ _, ?_⟩)) (fun x91 j91 w91 hJ91 K91 hK91 => ?_)
          ·
            exact ⟨hS81.sub (by repeat' (first | exact List.Sublist.refl _ | exact List.nil_sublist _ | apply List.Sublist.cons_cons | apply List.Sublist.cons)), Nat.zero_le _⟩
          ·
            obtain ⟨k, u⟩ := x91; obtain ⟨hS91, hk⟩ := hJ91; dsimp only at hk hS91 ⊢
            refine wp_seq_k (fun K92 hK92 => ?_)
            refine wp_seq_k (fun K93 hK93 => ?_)
            refine wp_region_lit ?_
            first | refine l_q rfl rfl (q_moveI rfl) ?_ | refine l_q rfl rfl (q_move rfl) ?_
            first | refine l_q rfl rfl (q_moveS rfl) ?_ | refine l_q rfl rfl (q_move rfl) ?_
            refine l_q rfl rfl (q_lenSl (e := 23) rfl (by kernel_rfl)) ?_
            refine l_q rfl rfl (q_lss rfl rfl) ?_
            refine l_nil ?_
            refine hK93 _ _ ?_
            refine c_cond rfl (fun hc94 => ?_) (fun hc94 => ?_)
            ·
              have hc94b := hc94
              try simp only [decide_eq_true_eq, decide_eq_false_iff_not, Bool.not_eq_true', Bool.not_eq_false', Bool.and_eq_true, Bool.or_eq_true, Int.not_lt, Int.not_le, ne_eq, Decidable.not_not] at hc94
              have hlt := hc94
              obtain ⟨q, hq⟩ : ∃ q, s.e.list[k]? = some q := ⟨_, List.getElem?_eq_getElem (by omega)⟩
              have hd1 : ((Er.join r.e s.e).list.map fun q => Value.int .i64 q.1)[((r.e.list.length : Int) + (k : Int)).toNat]? = some (.int .i64 q.1) := map_get (by
                  rw [show ((r.e.list.length : Int) + (k : Int)).toNat = r.e.list.length + k by omega, Er.list_join, List.getElem?_append_right (by omega), Nat.add_sub_cancel_left]
                  exact hq)
              have hd2 : ((s.e).list.map fun q => Value.int .i64 q.1)[(k : Int).toNat]? = some (.int .i64 q.1) := map_get hq
              obtain ⟨zg, zd, hze⟩ := own_some (hS91.sl (i := 0) rfl) (by omega)
              obtain ⟨ug, ud, hue⟩ := own_some (hS91.sl (i := 1) rfl) (by omega)
              refine wp_skip ?_
              refine hK92 _ _ ?_
              refine wp_seq_k (fun K95 hK95 => ?_)
              refine wp_block ?_
              refine wp_seq_k (fun K96 hK96 => ?_)
              refine r_any (by kernel_rfl) hS91 (fun w97 hS97 => ?_)
              clear hS91
              first | refine o_pure (i := 0) (fun _ _ => trivial) rfl rfl (by kernel_rfl) (goes0 rfl) (QOk.then (QOk.inBlock (QOk.then (QOk.then (QOk.inBlock (QOk.then QOk.body)))))) (fun w => q_moveS rfl) ?_ | refine o_pure (i := 0) (fun _ _ => trivial) rfl rfl (by kernel_rfl) (goes0 rfl) (QOk.then (QOk.inBlock (QOk.then (QOk.then (QOk.inBlock (QOk.then QOk.body)))))) (fun w => q_move rfl) ?_
              first | refine o_pure (i := 1) (fun _ _ => trivial) rfl rfl (by kernel_rfl) (goes0 rfl) (QOk.then (QOk.inBlock (QOk.then (QOk.then (QOk.inBlock (QOk.then QOk.body)))))) (fun w => q_moveS rfl) ?_ | refine o_pure (i := 1) (fun _ _ => trivial) rfl rfl (by kernel_rfl) (goes0 rfl) (QOk.then (QOk.inBlock (QOk.then (QOk.then (QOk.inBlock (QOk.then QOk.body)))))) (fun w => q_move rfl) ?_
              refine o_pure (i := 2) (fun _ _ => trivial) rfl rfl (by kernel_rfl) (goes0 rfl) (QOk.then (QOk.inBlock (QOk.then (QOk.then (QOk.inBlock (QOk.then QOk.body)))))) (fun w => q_lenSl (e := 23) rfl (by kernel_rfl)) ?_
              first | refine o_pure (i := 3) (fun _ _ => trivial) rfl rfl (by kernel_rfl) (goes0 rfl) (QOk.then (QOk.inBlock (QOk.then (QOk.then (QOk.inBlock (QOk.then QOk.body)))))) (fun w => q_moveI rfl) ?_ | refine o_pure (i := 3) (fun _ _ => trivial) rfl rfl (by kernel_rfl) (goes0 rfl) (QOk.then (QOk.inBlock (QOk.then (QOk.then (QOk.inBlock (QOk.then QOk.body)))))) (fun w => q_move rfl) ?_
              first | refine o_pure (i := 4) (fun _ _ => trivial) rfl rfl (by kernel_rfl) (goes0 rfl) (QOk.then (QOk.inBlock (QOk.then (QOk.then (QOk.inBlock (QOk.then QOk.body)))))) (fun w => q_addx rfl rfl (by first | decide | omega) (by first | decide | omega)) ?_ | refine o_pure (i := 4) (fun _ _ => trivial) rfl rfl (by kernel_rfl) (goes0 rfl) (QOk.then (QOk.inBlock (QOk.then (QOk.then (QOk.inBlock (QOk.then QOk.body)))))) (fun w => q_add rfl rfl) ?_
              refine o_pure (i := 5) (fun _ _ => trivial) rfl rfl (by kernel_rfl) (goes0 rfl) (QOk.then (QOk.inBlock (QOk.then (QOk.then (QOk.inBlock (QOk.then QOk.body)))))) (fun w => q_indexAddr (e := 23) (m := 1) hue rfl (by kernel_rfl) (by kernel_rfl) (by first | decide | omega) (by first | decide | omega)) ?_
              refine o_held (i := 6) [11] (fun _ _ => trivial) rfl rfl (by kernel_rfl) (goes0 rfl) (QOk.then (QOk.inBlock (QOk.then (QOk.then (QOk.inBlock (QOk.then QOk.body)))))) (q_load1 rfl (by kernel_rfl) (own_cellE (hS97.sl (i := 1) rfl) hue hd1)) ?_
              first | refine o_pure (i := 7) (fun j w => ⟨(fun _ _ => trivial) j w, fun _ h => h⟩) rfl rfl (by kernel_rfl) (goes0 rfl) (QOk.then (QOk.inBlock (QOk.then (QOk.then (QOk.inBlock (QOk.then QOk.body)))))) (fun w => q_moveS rfl) ?_ | refine o_pure (i := 7) (fun j w => ⟨(fun _ _ => trivial) j w, fun _ h => h⟩) rfl rfl (by kernel_rfl) (goes0 rfl) (QOk.then (QOk.inBlock (QOk.then (QOk.then (QOk.inBlock (QOk.then QOk.body)))))) (fun w => q_move rfl) ?_
              first | refine o_pure (i := 8) (fun j w => ⟨(fun _ _ => trivial) j w, fun _ h => h⟩) rfl rfl (by kernel_rfl) (goes0 rfl) (QOk.then (QOk.inBlock (QOk.then (QOk.then (QOk.inBlock (QOk.then QOk.body)))))) (fun w => q_moveI rfl) ?_ | refine o_pure (i := 8) (fun j w => ⟨(fun _ _ => trivial) j w, fun _ h => h⟩) rfl rfl (by kernel_rfl) (goes0 rfl) (QOk.then (QOk.inBlock (QOk.then (QOk.then (QOk.inBlock (QOk.then QOk.body)))))) (fun w => q_move rfl) ?_
              refine o_pure (i := 9) (fun j w => ⟨(fun _ _ => trivial) j w, fun _ h => h⟩) rfl rfl (by kernel_rfl) (goes0 rfl) (QOk.then (QOk.inBlock (QOk.then (QOk.then (QOk.inBlock (QOk.then QOk.body)))))) (fun w => q_indexAddr (e := 23) (m := 1) hze rfl (by kernel_rfl) (by kernel_rfl) (by first | decide | omega) (by first | decide | omega)) ?_
              refine o_held (i := 10) [11] (fun j w => ⟨(fun _ _ => trivial) j w, fun _ h => h⟩) rfl rfl (by kernel_rfl) (goes0 rfl) (QOk.then (QOk.inBlock (QOk.then (QOk.then (QOk.inBlock (QOk.then QOk.body)))))) (q_load1 rfl (by kernel_rfl) (own_cellE (hS97.sl (i := 0) rfl) hze hd2)) ?_
              refine o_pure (i := 11) (fun j w => ⟨(fun j w => ⟨(fun _ _ => trivial) j w, fun _ h => h⟩) j w, fun _ h => h⟩) rfl rfl (by kernel_rfl) (goes0 rfl) (QOk.then (QOk.inBlock (QOk.then (QOk.then (QOk.inBlock (QOk.then QOk.body)))))) (fun w => q_neq rfl rfl) ?_
              refine o_done (by kernel_rfl) ?_
              refine hK96 _ _ ?_
              refine c_condF rfl (decide_eq_false (fun hh => hh rfl)) ?_
              refine wp_skip ?_
              refine hK95 _ _ ?_
              refine wp_region_lit ?_
              first | refine l_q rfl rfl (q_moveI rfl) ?_ | refine l_q rfl rfl (q_move rfl) ?_
              first | refine l_q rfl rfl (q_addx rfl rfl (by first | decide | omega) (by first | decide | omega)) ?_ | refine l_q rfl rfl (q_add rfl rfl) ?_
              first | refine l_q rfl rfl (q_assignI rfl) ?_ | refine l_q rfl rfl (q_assign rfl) ?_
              refine l_nil ?_
              refine hK91 _ _ (came ((k + 1, ())) (by repeat' (first | exact Agree.refl _ _ | refine Agree.up ?_ rfl | refine Agree.hav2 ?_ rfl | refine Agree.ups2 ?_ rfl)) (by repeat' (first | exact trivial | refine ⟨by first | rfl | exact int_succ _, ?_⟩)) ?_)
              exact ⟨⟨hS97, by (show k + 1 ≤ s.e.list.length); omega⟩, by (show s.e.list.length - (k + 1) < s.e.list.length - k); omega⟩
            ·
              have hc94b := hc94
              try simp only [decide_eq_true_eq, decide_eq_false_iff_not, Bool.not_eq_true', Bool.not_eq_false', Bool.and_eq_true, Bool.or_eq_true, Int.not_lt, Int.not_le, ne_eq, Decidable.not_not] at hc94
              refine wp_exit ?_
              refine hK89 _ _ ?_
              refine wp_seq_k (fun K99 hK99 => ?_)
              refine wp_region_lit ?_
              refine l_e rfl (fun K hK => ?_)
              refine e_call (by kernel_rfl) (alive_ok _ (hl.keep id hS91)) rfl (after_R hS91 (fun v100 w100 hv100 hS100 => ?_))
              clear hS91; replace hv100 := hv100.symm; subst hv100
              refine hK _ _ ?_; clear hK K
              first | refine l_q rfl rfl (q_moveB rfl) ?_ | refine l_q rfl rfl (q_move rfl) ?_
              refine l_on rfl rfl rfl ?_
              refine l_q rfl rfl (q_move rfl) ?_
              refine l_on rfl rfl rfl ?_
              refine l_e rfl (fun K hK => ?_)
              refine e_call (by kernel_rfl) (Codes_ok r.e _ _ (by first | decide | omega) (hl.keep id hS100) (pool_er hS100 (i := 2) rfl (.tail _ (.tail _ hr1)))) rfl (after_N hS100 (fun v101 G101 w101 hv101 hS101 => ?_))
              clear hS100; subst hv101; obtain ⟨ya, yc, rfl⟩ := own_slice (hS101.sl (i := 0) rfl)
              refine hK _ _ ?_; clear hK K
              refine l_on rfl rfl rfl ?_
              refine l_q rfl rfl (q_lenSl (e := 23) rfl (by kernel_rfl)) ?_
              refine l_on rfl rfl rfl ?_
              first | refine l_q rfl rfl (q_moveS rfl) ?_ | refine l_q rfl rfl (q_move rfl) ?_
              refine l_on rfl rfl rfl ?_
              refine l_q rfl rfl (q_lenSl (e := 23) rfl (by kernel_rfl)) ?_
              refine l_on rfl rfl rfl ?_
              refine l_q rfl rfl (q_eql rfl rfl) ?_
              refine l_q rfl rfl (q_pickT rfl rfl rfl) ?_
              first | refine l_q rfl rfl (q_assignB rfl) ?_ | refine l_q rfl rfl (q_assign rfl) ?_
              refine l_nil ?_
              refine hK99 _ _ ?_
              refine wp_ret ?_
              refine c_ret1 rfl rfl ?_
              exact ⟨_, rfl, (show _ = Value.bool (decide (((r.e.list.length : Nat) : Int) = ((r.e.list.length : Nat) : Int))) from rfl).trans (by rw [decide_eq_true rfl]), hS101.drop⟩

end Go.Proofs.YtdlmcgflgdmjgaaDoor
