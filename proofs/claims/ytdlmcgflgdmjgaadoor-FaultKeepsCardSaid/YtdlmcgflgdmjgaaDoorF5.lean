/- Package fault: Has, by errors.Is. -/
import Derived.Test.YtdlmcgflgdmjgaaDoorF4
set_option linter.unusedVariables false
set_option linter.unusedSimpArgs false
namespace Go.Proofs.YtdlmcgflgdmjgaaDoor
open Go.RowKit
namespace Er
def has (q : Int) : Er → Bool
  | nil => false
  | flt c _ u => decide (c = q) || u.has q
  | jn x y => x.has q || y.has q
def sz : Er → Nat
  | nil => 0
  | flt _ _ u => u.sz + 1
  | jn x y => x.sz + y.sz + 1
theorem has_eq (q : Int) (e : Er) : e.has q = e.list.any fun p => decide (p.1 = q) := by
  induction e with
  | nil => rfl
  | flt c a u ih => simp [has, list, ih]
  | jn x y h1 h2 => simp [has, list, h1, h2]
end Er
attribute [local irreducible] Oper.wp Sem.run Code.wp wpList wpAnyO callFunc execOp Calls

set_option maxRecDepth 100000 in
theorem FIs_ok (b : Nat) (c a : Int) (uv : Value) (q : Int) (w : World) (hl : LaidV w) (hr : Ro w (fun _ => False) b) (hb : w.heap[b]? = some (fO c a uv)) : Calls Tryd.prog 105 #[.pointer (some ⟨b, 0, none⟩), .iface 95 (.agg #[.int .i64 q])] w (PostR w fun v => v = .bool (decide (c = q))) := by
  have hS := St.start w
  refine c_enter Tryd.func105 rfl rfl rfl ?_
  refine wp_seq_k (fun K1 hK1 => ?_)
  refine wp_region_lit ?_
  first | refine l_q rfl rfl (q_assignB rfl) ?_ | refine l_q rfl rfl (q_assign rfl) ?_
  refine l_nil ?_
  refine hK1 _ _ ?_
  refine wp_seq_k (fun K2 hK2 => ?_)
  refine wp_region_lit ?_
  refine l_e rfl (fun K hK => ?_)
  refine e_alloc (zv := .agg #[.int .i64 0]) hS (by kernel_rfl) (fun b3 w3 hS3 => ?_)
  clear hS
  refine hK _ _ ?_; clear hK K
  refine l_nil ?_
  refine hK2 _ _ ?_
  refine wp_seq_k (fun K4 hK4 => ?_)
  refine r_any (by kernel_rfl) hS3 (fun w5 hS5 => ?_)
  clear hS3
  refine o_pure (i := 0) (fun _ _ => trivial) rfl rfl (by kernel_rfl) (goes0 rfl) (QOk.then QOk.body) (fun w => q_move rfl) ?_
  refine o_pure (i := 1) (fun _ _ => trivial) rfl rfl (by kernel_rfl) (goes0 rfl) (QOk.then QOk.body) (fun w => q_makeInterface rfl (by kernel_rfl)) ?_
  refine o_eff (i := 2) (by kernel_rfl) rfl (goes0 rfl) (fun K hK => ?_)
  refine e_call (by kernel_rfl) (As_hit_M _ _ (hS5.new0 (i := 0) rfl id hl.pos) _ _ (St.begin (Γ := [_]) (F := []) hS5) (hl.keep id hS5)) rfl (after_M (Γ1 := [_]) (F := []) hS5 (fun v6 G6 w6 hv6 hS6 => ?_))
  clear hS5; obtain ⟨rfl, rfl⟩ := hv6
  refine hK _ _ trivial ?_; clear hK K
  first | refine o_pure (i := 3) (fun _ _ => trivial) rfl rfl (by kernel_rfl) (goes0 rfl) (QOk.then QOk.body) (fun w => q_moveB rfl) ?_ | refine o_pure (i := 3) (fun _ _ => trivial) rfl rfl (by kernel_rfl) (goes0 rfl) (QOk.then QOk.body) (fun w => q_move rfl) ?_
  first | refine o_pure (i := 4) (fun _ _ => trivial) rfl rfl (by kernel_rfl) (goes1 rfl rfl rfl) (QOk.then QOk.body) (fun w => q_moveP rfl) ?_ | refine o_pure (i := 4) (fun _ _ => trivial) rfl rfl (by kernel_rfl) (goes1 rfl rfl rfl) (QOk.then QOk.body) (fun w => q_move rfl) ?_
  refine o_pure (i := 5) (fun _ _ => trivial) rfl rfl (by kernel_rfl) (goes1 rfl rfl rfl) (QOk.then QOk.body) (fun w => q_nilCheck rfl) ?_
  refine o_pure (i := 6) (fun _ _ => trivial) rfl rfl (by kernel_rfl) (goes1 rfl rfl rfl) (QOk.then QOk.body) (fun w => q_fieldAddr (ft := 23) (o := 0) rfl (by kernel_rfl)) ?_
  refine o_held (i := 7) [10, 11, 12] (fun _ _ => trivial) rfl rfl (by kernel_rfl) (goes1 rfl rfl rfl) (QOk.then QOk.body) (q_load1 rfl (by kernel_rfl) (cell_blk ((hr.same hS6).trans hb) rfl)) ?_
  refine o_pure (i := 8) (fun j w => ⟨(fun _ _ => trivial) j w, fun _ h => h⟩) rfl rfl (by kernel_rfl) (goes1 rfl rfl rfl) (QOk.then QOk.body) (fun w => q_fieldAddr (ft := 23) (o := 0) rfl (by kernel_rfl)) ?_
  refine o_held (i := 9) [10, 11, 12] (fun j w => ⟨(fun _ _ => trivial) j w, fun _ h => h⟩) rfl rfl (by kernel_rfl) (goes1 rfl rfl rfl) (QOk.then QOk.body) (q_load1 rfl (by kernel_rfl) (by first | exact hS6.cell (i := 0) rfl rfl | exact hS6.cell (i := 1) rfl rfl | exact hS6.cell (i := 2) rfl rfl | exact hS6.cell (i := 3) rfl rfl | exact hS6.cell (i := 4) rfl rfl | exact hS6.cell (i := 5) rfl rfl | exact hS6.cell (i := 6) rfl rfl | exact hS6.cell (i := 7) rfl rfl | assumption)) ?_
  refine o_pure (i := 10) (fun j w => ⟨(fun j w => ⟨(fun _ _ => trivial) j w, fun _ h => h⟩) j w, fun _ h => h⟩) rfl rfl (by kernel_rfl) (goes1 rfl rfl rfl) (QOk.then QOk.body) (fun w => q_eql rfl rfl) ?_
  refine o_pure (i := 11) (fun j w => ⟨(fun j w => ⟨(fun _ _ => trivial) j w, fun _ h => h⟩) j w, fun _ h => h⟩) rfl rfl (by kernel_rfl) (goes0 rfl) (QOk.then QOk.body) (fun w => q_pickT rfl rfl rfl) ?_
  first | refine o_pure (i := 12) (fun j w => ⟨(fun j w => ⟨(fun _ _ => trivial) j w, fun _ h => h⟩) j w, fun _ h => h⟩) rfl rfl (by kernel_rfl) (goes0 rfl) (QOk.then QOk.body) (fun w => q_assignB rfl) ?_ | refine o_pure (i := 12) (fun j w => ⟨(fun j w => ⟨(fun _ _ => trivial) j w, fun _ h => h⟩) j w, fun _ h => h⟩) rfl rfl (by kernel_rfl) (goes0 rfl) (QOk.then QOk.body) (fun w => q_assign rfl) ?_
  refine o_done (by kernel_rfl) ?_
  refine hK4 _ _ ?_
  refine wp_ret ?_
  refine c_ret1 rfl rfl ?_
  exact ⟨_, rfl, rfl, hS6.drop⟩

def IsOk (q : Int) (n : Nat) : Prop := ∀ (e : Er) (v : Value) (w : World), e.sz ≤ n → e.Good → e.isNil = false → LaidV w → ErIn (Ro w (fun _ => False)) w e v → Calls Tryd.prog 64 #[v, .iface 95 (.agg #[.int .i64 q]), .bool true] w (PostR w fun r => r = .bool (e.has q))
theorem ErIn.if0 {S : Nat → Prop} {w : World} {e : Er} {v : Value} (h : ErIn S w e v) (hn : e.isNil = false) : isNilB v = false := h.isNil.trans hn
set_option maxRecDepth 100000 in
theorem is_step (q : Int) (n : Nat) (ih : IsOk q n) (e : Er) (v : Value) (w : World) (hsz : e.sz ≤ n + 1) (hg : e.Good) (hn : e.isNil = false) (hl : LaidV w) (hE : ErIn (Ro w (fun _ => False)) w e v) : Calls Tryd.prog 64 #[v, .iface 95 (.agg #[.int .i64 q]), .bool true] w (PostR w fun r => r = .bool (e.has q)) := by
  have hS := St.start w
  refine c_enter Tryd.func64 rfl rfl rfl ?_
  refine wp_seq_k (fun K1 hK1 => ?_)
  refine wp_region_lit ?_
  first | refine l_q rfl rfl (q_assignB rfl) ?_ | refine l_q rfl rfl (q_assign rfl) ?_
  refine l_nil ?_
  refine hK1 _ _ ?_
  refine wp_block ?_
  refine c_loop (τ := Er × Value) [(0, 0), (6, 10), (12, 53)] (fun x => [(0, x.2)]) (fun x w' => St w (fun _ => False) [] w' ∧ x.1.Good ∧ x.1.isNil = false ∧ x.1.sz ≤ n + 1 ∧ ErIn (Ro w (fun _ => False)) w x.1 x.2 ∧ x.1.has q = e.has q) (fun x => x.1.sz) ((e, v)) ?_ (by first | exact ⟨rfl, trivial⟩ | exact ⟨rfl, rfl, trivial⟩ | exact ⟨rfl, rfl, rfl, trivial⟩ | exact ⟨rfl, rfl, rfl, rfl, trivial⟩) (fun x2 j2 w2 hJ2 K2 hK2 => ?_)
  ·
    exact ⟨hS.drop, hg, hn, hsz, hE, rfl⟩
  ·
    obtain ⟨e', v'⟩ := x2; obtain ⟨hS2, hg, hnn, hsz, hE, hh⟩ := hJ2; dsimp only at hg hnn hsz hE hh ⊢
    rcases e' with _ | ⟨c, a, u⟩ | ⟨x, y⟩
    · cases hnn
    ·
      obtain ⟨b, uv, rfl, hr, hb, hu⟩ := hE
      have hui := hu.isIf
      refine wp_block ?_
      refine wp_seq_k (fun K3 hK3 => ?_)
      refine wp_seq_k (fun K4 hK4 => ?_)
      refine wp_region_lit ?_
      first | refine l_q rfl rfl (q_moveB rfl) ?_ | refine l_q rfl rfl (q_move rfl) ?_
      first | refine l_q rfl rfl (q_moveB rfl) ?_ | refine l_q rfl rfl (q_move rfl) ?_
      refine l_on rfl rfl rfl ?_
      refine l_q rfl rfl (q_move rfl) ?_
      refine l_on rfl rfl rfl ?_
      refine l_q rfl rfl (q_move rfl) ?_
      refine l_on rfl rfl rfl ?_
      first | refine l_q rfl rfl (q_ieqNI rfl rfl (by kernel_rfl)) ?_ | refine l_q rfl rfl (q_ieqTT rfl rfl (by kernel_rfl) rfl) ?_
      refine l_q rfl rfl (q_pickT rfl rfl rfl) ?_
      refine l_nil ?_
      refine hK4 _ _ ?_
      refine c_condF rfl rfl ?_
      refine wp_skip ?_
      refine hK3 _ _ ?_
      refine wp_seq_k (fun K7 hK7 => ?_)
      refine wp_seq_k (fun K8 hK8 => ?_)
      refine wp_region_lit ?_
      refine l_q rfl rfl (q_move rfl) ?_
      refine l_q rfl rfl (q_taIHit rfl (by kernel_rfl)) ?_
      refine l_q rfl rfl (q_move rfl) ?_
      refine l_q rfl rfl (q_extract rfl rfl) ?_
      refine l_q rfl rfl (q_extract rfl rfl) ?_
      refine l_q rfl rfl (q_assign rfl) ?_
      first | refine l_q rfl rfl (q_assignB rfl) ?_ | refine l_q rfl rfl (q_assign rfl) ?_
      refine l_nil ?_
      refine hK8 _ _ ?_
      refine wp_seq_k (fun K9 hK9 => ?_)
      refine wp_region_lit ?_
      first | refine l_q rfl rfl (q_moveB rfl) ?_ | refine l_q rfl rfl (q_move rfl) ?_
      first | refine l_q rfl rfl (q_moveB rfl) ?_ | refine l_q rfl rfl (q_move rfl) ?_
      refine l_on rfl rfl rfl ?_
      refine l_q rfl rfl (q_move rfl) ?_
      refine l_on rfl rfl rfl ?_
      refine l_q rfl rfl (q_move rfl) ?_
      refine l_on rfl rfl rfl ?_
      refine l_e rfl (fun K hK => ?_)
      refine e_invoke (by kernel_rfl) rfl (m_FIs _) (FIs_ok b c a uv q _ (hl.keep id hS2) (hr.nextR hS2) ((hr.same hS2).trans hb)) rfl (after_R hS2 (fun v11 w11 hv11 hS11 => ?_))
      clear hS2; replace hv11 := hv11.symm; subst hv11
      refine hK _ _ ?_; clear hK K
      refine l_q rfl rfl (q_pickT rfl rfl rfl) ?_
      refine l_nil ?_
      refine hK9 _ _ ?_
      refine c_cond rfl (fun hc12 => ?_) (fun hc12 => ?_)
      ·
        have hc12b := hc12
        try simp only [decide_eq_true_eq, decide_eq_false_iff_not, Bool.not_eq_true', Bool.not_eq_false', Bool.and_eq_true, Bool.or_eq_true, Int.not_lt, Int.not_le, ne_eq, Decidable.not_not] at hc12
        have hcq : c = q := hc12
        refine wp_seq_k (fun K13 hK13 => ?_)
        refine wp_region_lit ?_
        first | refine l_q rfl rfl (q_assignB rfl) ?_ | refine l_q rfl rfl (q_assign rfl) ?_
        refine l_nil ?_
        refine hK13 _ _ ?_
        refine wp_ret ?_
        refine c_ret1 rfl rfl ?_
        exact ⟨_, rfl, (show _ = Value.bool true from rfl).trans (by rw [← hh]; simp [Er.has, hcq]), hS11.drop⟩
      ·
        have hc12b := hc12
        try simp only [decide_eq_true_eq, decide_eq_false_iff_not, Bool.not_eq_true', Bool.not_eq_false', Bool.and_eq_true, Bool.or_eq_true, Int.not_lt, Int.not_le, ne_eq, Decidable.not_not] at hc12
        have hcq : ¬ c = q := hc12
        refine wp_skip ?_
        refine hK7 _ _ ?_
        refine wp_seq_k (fun K14 hK14 => ?_)
        refine wp_region_lit ?_
        refine l_q rfl rfl (q_move rfl) ?_
        refine l_nil ?_
        refine hK14 _ _ ?_
        refine wp_block ?_
        refine wp_seq_k (fun K15 hK15 => ?_)
        refine wp_region_lit ?_
        refine l_q rfl rfl (q_taIHit rfl (by kernel_rfl)) ?_
        refine l_q rfl rfl (q_extract rfl rfl) ?_
        refine l_q rfl rfl (q_extract rfl rfl) ?_
        refine l_nil ?_
        refine hK15 _ _ ?_
        refine c_condT rfl rfl ?_
        refine wp_seq_k (fun K17 hK17 => ?_)
        refine wp_region_lit ?_
        refine l_q rfl rfl (q_assign rfl) ?_
        refine l_nil ?_
        refine hK17 _ _ ?_
        refine wp_seq_k (fun K18 hK18 => ?_)
        refine wp_region_lit ?_
        refine l_q rfl rfl (q_move rfl) ?_
        refine l_e rfl (fun K hK => ?_)
        refine e_invoke (by kernel_rfl) rfl (m_FUnwrap _) (FUnwrap_ok b c a uv _ (hr.nextR hS11) ((hr.same hS11).trans hb)) rfl (after_R hS11 (fun v19 w19 hv19 hS19 => ?_))
        clear hS11; replace hv19 := hv19.symm; subst hv19
        refine hK _ _ ?_; clear hK K
        refine l_q rfl rfl (q_assign rfl) ?_
        refine l_nil ?_
        refine hK18 _ _ ?_
        refine wp_seq_k (fun K20 hK20 => ?_)
        refine wp_region_lit ?_
        refine l_q rfl rfl (q_move rfl) ?_
        first | refine l_q rfl rfl (q_ieq0 rfl (by kernel_rfl)) ?_ | refine l_q rfl rfl (q_ieq1 rfl (by kernel_rfl)) ?_ | refine l_q rfl rfl (q_ieq rfl (by assumption) (by kernel_rfl)) ?_
        refine l_nil ?_
        refine hK20 _ _ ?_
        refine c_cond rfl (fun hc21 => ?_) (fun hc21 => ?_)
        ·
          have hc21b := hc21
          try simp only [decide_eq_true_eq, decide_eq_false_iff_not, Bool.not_eq_true', Bool.not_eq_false', Bool.and_eq_true, Bool.or_eq_true, Int.not_lt, Int.not_le, ne_eq, Decidable.not_not] at hc21
          have hun := hu.isNil.symm.trans hc21
          refine wp_seq_k (fun K22 hK22 => ?_)
          refine wp_region_lit ?_
          first | refine l_q rfl rfl (q_assignB rfl) ?_ | refine l_q rfl rfl (q_assign rfl) ?_
          refine l_nil ?_
          refine hK22 _ _ ?_
          refine wp_ret ?_
          refine c_ret1 rfl rfl ?_
          exact ⟨_, rfl, (show _ = Value.bool false from rfl).trans (by rw [← hh]; cases u <;> first | (simp [Er.has, hcq]; done) | cases hun), hS19.drop⟩
        ·
          have hc21b := hc21
          try simp only [decide_eq_true_eq, decide_eq_false_iff_not, Bool.not_eq_true', Bool.not_eq_false', Bool.and_eq_true, Bool.or_eq_true, Int.not_lt, Int.not_le, ne_eq, Decidable.not_not] at hc21
          have hun := hu.isNil.symm.trans hc21
          refine wp_skip ?_
          refine hK2 _ _ (came ((u, uv)) (by repeat' (first | exact Agree.refl _ _ | refine Agree.up ?_ rfl | refine Agree.hav2 ?_ rfl | refine Agree.ups2 ?_ rfl)) (by first | exact ⟨rfl, trivial⟩ | exact ⟨rfl, rfl, trivial⟩ | exact ⟨rfl, rfl, rfl, trivial⟩ | exact ⟨rfl, rfl, rfl, rfl, trivial⟩ | exact ⟨rfl, rfl, rfl, rfl, rfl, trivial⟩) ?_)
          exact ⟨⟨hS19.drop, hg.2, hun, by simp only [Er.sz] at hsz ⊢; omega, hu, by rw [← hh]; simp [Er.has, hcq]⟩, by simp [Er.sz]⟩
    ·
      obtain ⟨b, xv, yv, rfl, hr, hb, hx, hy⟩ := hE
      refine wp_block ?_
      refine wp_seq_k (fun K23 hK23 => ?_)
      refine wp_seq_k (fun K24 hK24 => ?_)
      refine wp_region_lit ?_
      first | refine l_q rfl rfl (q_moveB rfl) ?_ | refine l_q rfl rfl (q_move rfl) ?_
      first | refine l_q rfl rfl (q_moveB rfl) ?_ | refine l_q rfl rfl (q_move rfl) ?_
      refine l_on rfl rfl rfl ?_
      refine l_q rfl rfl (q_move rfl) ?_
      refine l_on rfl rfl rfl ?_
      refine l_q rfl rfl (q_move rfl) ?_
      refine l_on rfl rfl rfl ?_
      first | refine l_q rfl rfl (q_ieqNI rfl rfl (by kernel_rfl)) ?_ | refine l_q rfl rfl (q_ieqTT rfl rfl (by kernel_rfl) rfl) ?_
      refine l_q rfl rfl (q_pickT rfl rfl rfl) ?_
      refine l_nil ?_
      refine hK24 _ _ ?_
      refine c_condF rfl rfl ?_
      refine wp_skip ?_
      refine hK23 _ _ ?_
      refine wp_seq_k (fun K27 hK27 => ?_)
      refine wp_seq_k (fun K28 hK28 => ?_)
      refine wp_region_lit ?_
      refine l_q rfl rfl (q_move rfl) ?_
      refine l_q rfl rfl (q_taIMiss (z := .nilIface) rfl (by kernel_rfl) (by kernel_rfl)) ?_
      refine l_q rfl rfl (q_move rfl) ?_
      refine l_q rfl rfl (q_extract rfl rfl) ?_
      refine l_q rfl rfl (q_extract rfl rfl) ?_
      refine l_q rfl rfl (q_assign rfl) ?_
      first | refine l_q rfl rfl (q_assignB rfl) ?_ | refine l_q rfl rfl (q_assign rfl) ?_
      refine l_nil ?_
      refine hK28 _ _ ?_
      refine wp_seq_k (fun K29 hK29 => ?_)
      refine wp_region_lit ?_
      first | refine l_q rfl rfl (q_moveB rfl) ?_ | refine l_q rfl rfl (q_move rfl) ?_
      first | refine l_q rfl rfl (q_moveB rfl) ?_ | refine l_q rfl rfl (q_move rfl) ?_
      refine l_off rfl rfl rfl rfl ?_
      refine l_off rfl rfl rfl rfl ?_
      refine l_off rfl rfl rfl rfl ?_
      refine l_q rfl rfl (q_pickF rfl rfl rfl) ?_
      refine l_nil ?_
      refine hK29 _ _ ?_
      refine c_condF rfl rfl ?_
      refine wp_skip ?_
      refine hK27 _ _ ?_
      refine wp_seq_k (fun K32 hK32 => ?_)
      refine wp_region_lit ?_
      refine l_q rfl rfl (q_move rfl) ?_
      refine l_nil ?_
      refine hK32 _ _ ?_
      refine wp_block ?_
      refine wp_seq_k (fun K33 hK33 => ?_)
      refine wp_region_lit ?_
      refine l_q rfl rfl (q_taIMiss (z := .nilIface) rfl (by kernel_rfl) (by kernel_rfl)) ?_
      refine l_q rfl rfl (q_extract rfl rfl) ?_
      refine l_q rfl rfl (q_extract rfl rfl) ?_
      refine l_nil ?_
      refine hK33 _ _ ?_
      refine c_condF rfl rfl ?_
      refine wp_seq_k (fun K35 hK35 => ?_)
      refine wp_region_lit ?_
      refine l_q rfl rfl (q_taIHit rfl (by kernel_rfl)) ?_
      refine l_q rfl rfl (q_extract rfl rfl) ?_
      refine l_q rfl rfl (q_extract rfl rfl) ?_
      refine l_nil ?_
      refine hK35 _ _ ?_
      refine c_condT rfl rfl ?_
      refine wp_seq_k (fun K37 hK37 => ?_)
      refine wp_region_lit ?_
      refine l_q rfl rfl (q_assign rfl) ?_
      refine l_nil ?_
      refine hK37 _ _ ?_
      refine wp_seq_k (fun K38 hK38 => ?_)
      refine wp_seq_k (fun K39 hK39 => ?_)
      refine wp_region_lit ?_
      refine l_q rfl rfl (q_move rfl) ?_
      refine l_e rfl (fun K hK => ?_)
      refine e_invoke (by kernel_rfl) rfl (m_JUnwrap _) (JUnwrap_ok b xv yv _ (hr.nextR hS2) ((hr.same hS2).trans hb) hx.isIf hy.isIf) rfl (after_N hS2 (fun v40 G40 w40 hv40 hS40 => ?_))
      clear hS2; obtain ⟨sb, rfl, rfl⟩ := hv40
      refine hK _ _ ?_; clear hK K
      refine l_q rfl rfl (q_lenSl (e := 29) rfl (by kernel_rfl)) ?_
      first | refine l_q rfl rfl (q_moveI rfl) ?_ | refine l_q rfl rfl (q_move rfl) ?_
      refine l_nil ?_
      refine hK39 _ _ ?_
      refine wp_block ?_
      refine c_rounds 3 ?_
      refine c_round ?_
      refine wp_seq_k (fun K41 hK41 => ?_)
      refine wp_region_lit ?_
      refine l_q rfl rfl (q_lss rfl rfl) ?_
      refine l_nil ?_
      refine hK41 _ _ ?_
      refine wp_seq_k (fun K42 hK42 => ?_)
      refine c_condT rfl rfl ?_
      refine wp_skip ?_
      refine hK42 _ _ ?_
      refine wp_seq_k (fun K44 hK44 => ?_)
      refine wp_block ?_
      refine wp_seq_k (fun K45 hK45 => ?_)
      refine wp_region_lit ?_
      refine l_q rfl rfl (q_indexAddr (e := 29) (m := 1) rfl rfl (by kernel_rfl) (by kernel_rfl) (by first | decide | omega) (by first | decide | omega)) ?_
      refine l_q rfl rfl (q_load1 rfl (by kernel_rfl) (by first | exact hS40.cell (i := 0) rfl rfl | exact hS40.cell (i := 1) rfl rfl | exact hS40.cell (i := 2) rfl rfl | exact hS40.cell (i := 3) rfl rfl | exact hS40.cell (i := 4) rfl rfl | exact hS40.cell (i := 5) rfl rfl | exact hS40.cell (i := 6) rfl rfl | exact hS40.cell (i := 7) rfl rfl | assumption)) ?_
      refine l_q rfl rfl (q_assign rfl) ?_
      refine l_nil ?_
      refine hK45 _ _ ?_
      refine wp_seq_k (fun K46 hK46 => ?_)
      refine wp_region_lit ?_
      refine l_q rfl rfl (q_move rfl) ?_
      refine l_q rfl rfl (q_move rfl) ?_
      first | refine l_q rfl rfl (q_moveB rfl) ?_ | refine l_q rfl rfl (q_move rfl) ?_
      refine l_e rfl (fun K hK => ?_)
      refine e_call (by kernel_rfl) (ih _ _ _ (by simp only [Er.sz] at hsz; omega) hg.2.2.1 hg.1  (hl.keep id hS40) (hx.nextR hS40)) rfl (after_R hS40 (fun v47 w47 hv47 hS47 => ?_))
      clear hS40; subst hv47
      refine hK _ _ ?_; clear hK K
      refine l_nil ?_
      refine hK46 _ _ ?_
      refine c_cond rfl (fun hc48 => ?_) (fun hc48 => ?_)
      ·
        have hc48b := hc48
        try simp only [decide_eq_true_eq, decide_eq_false_iff_not, Bool.not_eq_true', Bool.not_eq_false', Bool.and_eq_true, Bool.or_eq_true, Int.not_lt, Int.not_le, ne_eq, Decidable.not_not] at hc48
        have hq0 := hc48
        refine wp_seq_k (fun K49 hK49 => ?_)
        refine wp_region_lit ?_
        first | refine l_q rfl rfl (q_assignB rfl) ?_ | refine l_q rfl rfl (q_assign rfl) ?_
        refine l_nil ?_
        refine hK49 _ _ ?_
        refine wp_ret ?_
        refine c_ret1 rfl rfl ?_
        exact ⟨_, rfl, (show _ = Value.bool true from rfl).trans (by rw [← hh]; simp [Er.has, hq0]), hS47.drop⟩
      ·
        have hc48b := hc48
        try simp only [decide_eq_true_eq, decide_eq_false_iff_not, Bool.not_eq_true', Bool.not_eq_false', Bool.and_eq_true, Bool.or_eq_true, Int.not_lt, Int.not_le, ne_eq, Decidable.not_not] at hc48
        have hq0 := hc48
        refine wp_skip ?_
        refine hK44 _ _ ?_
        refine wp_region_lit ?_
        first | refine l_q rfl rfl (q_addx rfl rfl (by first | decide | omega) (by first | decide | omega)) ?_ | refine l_q rfl rfl (q_add rfl rfl) ?_
        first | refine l_q rfl rfl (q_moveI rfl) ?_ | refine l_q rfl rfl (q_move rfl) ?_
        refine l_nil ?_
        refine c_round ?_
        refine wp_seq_k (fun K50 hK50 => ?_)
        refine wp_region_lit ?_
        refine l_q rfl rfl (q_lss rfl rfl) ?_
        refine l_nil ?_
        refine hK50 _ _ ?_
        refine wp_seq_k (fun K51 hK51 => ?_)
        refine c_condT rfl rfl ?_
        refine wp_skip ?_
        refine hK51 _ _ ?_
        refine wp_seq_k (fun K53 hK53 => ?_)
        refine wp_block ?_
        refine wp_seq_k (fun K54 hK54 => ?_)
        refine wp_region_lit ?_
        refine l_q rfl rfl (q_indexAddr (e := 29) (m := 1) rfl rfl (by kernel_rfl) (by kernel_rfl) (by first | decide | omega) (by first | decide | omega)) ?_
        refine l_q rfl rfl (q_load1 rfl (by kernel_rfl) (by first | exact hS47.cell (i := 0) rfl rfl | exact hS47.cell (i := 1) rfl rfl | exact hS47.cell (i := 2) rfl rfl | exact hS47.cell (i := 3) rfl rfl | exact hS47.cell (i := 4) rfl rfl | exact hS47.cell (i := 5) rfl rfl | exact hS47.cell (i := 6) rfl rfl | exact hS47.cell (i := 7) rfl rfl | assumption)) ?_
        refine l_q rfl rfl (q_assign rfl) ?_
        refine l_nil ?_
        refine hK54 _ _ ?_
        refine wp_seq_k (fun K55 hK55 => ?_)
        refine wp_region_lit ?_
        refine l_q rfl rfl (q_move rfl) ?_
        refine l_q rfl rfl (q_move rfl) ?_
        first | refine l_q rfl rfl (q_moveB rfl) ?_ | refine l_q rfl rfl (q_move rfl) ?_
        refine l_e rfl (fun K hK => ?_)
        refine e_call (by kernel_rfl) (ih _ _ _ (by simp only [Er.sz] at hsz; omega) hg.2.2.2 hg.2.1  (hl.keep id hS47) (hy.nextR hS47)) rfl (after_R hS47 (fun v56 w56 hv56 hS56 => ?_))
        clear hS47; subst hv56
        refine hK _ _ ?_; clear hK K
        refine l_nil ?_
        refine hK55 _ _ ?_
        refine c_cond rfl (fun hc57 => ?_) (fun hc57 => ?_)
        ·
          have hc57b := hc57
          try simp only [decide_eq_true_eq, decide_eq_false_iff_not, Bool.not_eq_true', Bool.not_eq_false', Bool.and_eq_true, Bool.or_eq_true, Int.not_lt, Int.not_le, ne_eq, Decidable.not_not] at hc57
          have hq1 := hc57
          refine wp_seq_k (fun K58 hK58 => ?_)
          refine wp_region_lit ?_
          first | refine l_q rfl rfl (q_assignB rfl) ?_ | refine l_q rfl rfl (q_assign rfl) ?_
          refine l_nil ?_
          refine hK58 _ _ ?_
          refine wp_ret ?_
          refine c_ret1 rfl rfl ?_
          exact ⟨_, rfl, (show _ = Value.bool true from rfl).trans (by rw [← hh]; simp [Er.has, hq0, hq1]), hS56.drop⟩
        ·
          have hc57b := hc57
          try simp only [decide_eq_true_eq, decide_eq_false_iff_not, Bool.not_eq_true', Bool.not_eq_false', Bool.and_eq_true, Bool.or_eq_true, Int.not_lt, Int.not_le, ne_eq, Decidable.not_not] at hc57
          have hq1 := hc57
          refine wp_skip ?_
          refine hK53 _ _ ?_
          refine wp_region_lit ?_
          first | refine l_q rfl rfl (q_addx rfl rfl (by first | decide | omega) (by first | decide | omega)) ?_ | refine l_q rfl rfl (q_add rfl rfl) ?_
          first | refine l_q rfl rfl (q_moveI rfl) ?_ | refine l_q rfl rfl (q_move rfl) ?_
          refine l_nil ?_
          refine c_round ?_
          refine wp_seq_k (fun K59 hK59 => ?_)
          refine wp_region_lit ?_
          refine l_q rfl rfl (q_lss rfl rfl) ?_
          refine l_nil ?_
          refine hK59 _ _ ?_
          refine wp_seq_k (fun K60 hK60 => ?_)
          refine c_condF rfl rfl ?_
          refine wp_exit ?_
          refine hK38 _ _ ?_
          refine wp_seq_k (fun K62 hK62 => ?_)
          refine wp_region_lit ?_
          first | refine l_q rfl rfl (q_assignB rfl) ?_ | refine l_q rfl rfl (q_assign rfl) ?_
          refine l_nil ?_
          refine hK62 _ _ ?_
          refine wp_ret ?_
          refine c_ret1 rfl rfl ?_
          exact ⟨_, rfl, (show _ = Value.bool false from rfl).trans (by rw [← hh]; simp [Er.has, hq0, hq1]), hS56.drop⟩

theorem is_ok (q : Int) : ∀ n, IsOk q n
  | 0 => fun e v w hs hg hn hl hE => by
    cases e with
    | nil => cases hn
    | flt c a u => simp [Er.sz] at hs
    | jn x y => simp [Er.sz] at hs
  | n + 1 => fun e v w hs hg hn hl hE => is_step q n (is_ok q n) e v w hs hg hn hl hE

set_option maxRecDepth 100000 in
theorem Is_nil (q : Int) (w : World) : Calls Tryd.prog 45 #[.nilIface, .iface 95 (.agg #[.int .i64 q])] w (PostR w fun r => r = .bool false) := by
  have hS := St.start w
  refine c_enter Tryd.func45 rfl rfl rfl ?_
  refine wp_seq_k (fun K1 hK1 => ?_)
  refine wp_region_lit ?_
  first | refine l_q rfl rfl (q_assignB rfl) ?_ | refine l_q rfl rfl (q_assign rfl) ?_
  refine l_nil ?_
  refine hK1 _ _ ?_
  refine wp_seq_k (fun K2 hK2 => ?_)
  refine wp_seq_k (fun K3 hK3 => ?_)
  refine wp_region_lit ?_
  refine l_q rfl rfl (q_move rfl) ?_
  first | refine l_q rfl rfl (q_ieq0 rfl (by kernel_rfl)) ?_ | refine l_q rfl rfl (q_ieq1 rfl (by kernel_rfl)) ?_ | refine l_q rfl rfl (q_ieq rfl (by assumption) (by kernel_rfl)) ?_
  first | refine l_q rfl rfl (q_moveB rfl) ?_ | refine l_q rfl rfl (q_move rfl) ?_
  refine l_off rfl rfl rfl rfl ?_
  refine l_off rfl rfl rfl rfl ?_
  refine l_q rfl rfl (q_pickT rfl rfl rfl) ?_
  refine l_nil ?_
  refine hK3 _ _ ?_
  refine c_condT rfl rfl ?_
  refine wp_seq_k (fun K6 hK6 => ?_)
  refine wp_region_lit ?_
  refine l_q rfl rfl (q_move rfl) ?_
  refine l_q rfl rfl (q_move rfl) ?_
  first | refine l_q rfl rfl (q_ieqNI rfl rfl (by kernel_rfl)) ?_ | refine l_q rfl rfl (q_ieqTT rfl rfl (by kernel_rfl) rfl) ?_
  first | refine l_q rfl rfl (q_assignB rfl) ?_ | refine l_q rfl rfl (q_assign rfl) ?_
  refine l_nil ?_
  refine hK6 _ _ ?_
  refine wp_ret ?_
  refine c_ret1 rfl rfl ?_
  exact ⟨_, rfl, rfl, hS.drop⟩

set_option maxRecDepth 100000 in
theorem Is_some (q : Int) (e : Er) (v : Value) (w : World) (hg : e.Good) (hn : e.isNil = false) (hl : LaidV w) (hE : ErIn (Ro w (fun _ => False)) w e v) : Calls Tryd.prog 45 #[v, .iface 95 (.agg #[.int .i64 q])] w (PostR w fun r => r = .bool (e.has q)) := by
  have hS := St.start w
  have hn0 : isNilB v = false := hE.isNil.trans hn
  have hvi := hE.isIf
  refine c_enter Tryd.func45 rfl rfl rfl ?_
  refine wp_seq_k (fun K1 hK1 => ?_)
  refine wp_region_lit ?_
  first | refine l_q rfl rfl (q_assignB rfl) ?_ | refine l_q rfl rfl (q_assign rfl) ?_
  refine l_nil ?_
  refine hK1 _ _ ?_
  refine wp_seq_k (fun K2 hK2 => ?_)
  refine wp_seq_k (fun K3 hK3 => ?_)
  refine wp_region_lit ?_
  refine l_q rfl rfl (q_move rfl) ?_
  first | refine l_q rfl rfl (q_ieq0 rfl (by kernel_rfl)) ?_ | refine l_q rfl rfl (q_ieq1 rfl (by kernel_rfl)) ?_ | refine l_q rfl rfl (q_ieq rfl (by assumption) (by kernel_rfl)) ?_
  first | refine l_q rfl rfl (q_moveB rfl) ?_ | refine l_q rfl rfl (q_move rfl) ?_
  refine l_on rfl rfl hn0 ?_
  refine l_q rfl rfl (q_move rfl) ?_
  refine l_on rfl rfl hn0 ?_
  first | refine l_q rfl rfl (q_ieq0 rfl (by kernel_rfl)) ?_ | refine l_q rfl rfl (q_ieq1 rfl (by kernel_rfl)) ?_ | refine l_q rfl rfl (q_ieq rfl (by assumption) (by kernel_rfl)) ?_
  refine l_q rfl rfl (q_pickF rfl hn0 rfl) ?_
  refine l_nil ?_
  refine hK3 _ _ ?_
  refine c_condF rfl rfl ?_
  refine wp_skip ?_
  refine hK2 _ _ ?_
  refine wp_seq_k (fun K6 hK6 => ?_)
  refine wp_region_lit ?_
  refine l_q rfl rfl (q_move rfl) ?_
  refine l_q rfl rfl (q_ext rfl (TypeOf_M _ _)) ?_
  refine l_q rfl rfl (q_extI rfl (m_Comparable _) rfl (Comparable_M _)) ?_
  first | refine l_q rfl rfl (q_assignB rfl) ?_ | refine l_q rfl rfl (q_assign rfl) ?_
  refine l_nil ?_
  refine hK6 _ _ ?_
  refine wp_seq_k (fun K7 hK7 => ?_)
  refine wp_region_lit ?_
  refine l_q rfl rfl (q_move rfl) ?_
  refine l_q rfl rfl (q_move rfl) ?_
  first | refine l_q rfl rfl (q_moveB rfl) ?_ | refine l_q rfl rfl (q_move rfl) ?_
  refine l_e rfl (fun K hK => ?_)
  refine e_call (by kernel_rfl) (is_ok q _ e v _ (Nat.le_refl _) hg hn (hl.keep id hS) (hE.nextR hS)) rfl (after_R hS (fun v8 w8 hv8 hS8 => ?_))
  clear hS; replace hv8 := hv8.symm; subst hv8
  refine hK _ _ ?_; clear hK K
  first | refine l_q rfl rfl (q_assignB rfl) ?_ | refine l_q rfl rfl (q_assign rfl) ?_
  refine l_nil ?_
  refine hK7 _ _ ?_
  refine wp_ret ?_
  refine c_ret1 rfl rfl ?_
  exact ⟨_, rfl, rfl, hS8.drop⟩

set_option maxRecDepth 100000 in
theorem Has_nil (q : Int) (w : World) : Calls Tryd.prog 21 #[.nilIface, .int .i64 q] w (PostR w fun r => r = .bool false) := by
  have hS := St.start w
  refine c_enter Tryd.func21 rfl rfl rfl ?_
  refine wp_seq_k (fun K1 hK1 => ?_)
  refine wp_region_lit ?_
  first | refine l_q rfl rfl (q_assignB rfl) ?_ | refine l_q rfl rfl (q_assign rfl) ?_
  refine l_nil ?_
  refine hK1 _ _ ?_
  refine wp_seq_k (fun K2 hK2 => ?_)
  refine wp_region_lit ?_
  refine l_q rfl rfl (q_move rfl) ?_
  first | refine l_q rfl rfl (q_moveI rfl) ?_ | refine l_q rfl rfl (q_move rfl) ?_
  refine l_q rfl rfl (q_build (ps := [(0, 1)]) (zv := .agg #[.int .i64 0]) (by kernel_rfl) (by kernel_rfl) rfl (by repeat' (first | exact trivial | refine ⟨fun _ => by first | rfl | assumption | exact one_if (by assumption), ?_⟩ | refine ⟨fun ⟨_, h⟩ => by simp at h, ?_⟩)) rfl) ?_
  refine l_q rfl rfl (q_makeInterface rfl (by kernel_rfl)) ?_
  refine l_e rfl (fun K hK => ?_)
  refine e_call (by kernel_rfl) (Is_nil q _) rfl (after_R hS (fun v3 w3 hv3 hS3 => ?_))
  clear hS; replace hv3 := hv3.symm; subst hv3
  refine hK _ _ ?_; clear hK K
  first | refine l_q rfl rfl (q_assignB rfl) ?_ | refine l_q rfl rfl (q_assign rfl) ?_
  refine l_nil ?_
  refine hK2 _ _ ?_
  refine wp_ret ?_
  refine c_ret1 rfl rfl ?_
  exact ⟨_, rfl, rfl, hS3.drop⟩

set_option maxRecDepth 100000 in
theorem Has_some (q : Int) (e : Er) (v : Value) (w : World) (hg : e.Good) (hn : e.isNil = false) (hl : LaidV w) (hE : ErIn (Ro w (fun _ => False)) w e v) : Calls Tryd.prog 21 #[v, .int .i64 q] w (PostR w fun r => r = .bool (e.has q)) := by
  have hS := St.start w
  refine c_enter Tryd.func21 rfl rfl rfl ?_
  refine wp_seq_k (fun K1 hK1 => ?_)
  refine wp_region_lit ?_
  first | refine l_q rfl rfl (q_assignB rfl) ?_ | refine l_q rfl rfl (q_assign rfl) ?_
  refine l_nil ?_
  refine hK1 _ _ ?_
  refine wp_seq_k (fun K2 hK2 => ?_)
  refine wp_region_lit ?_
  refine l_q rfl rfl (q_move rfl) ?_
  first | refine l_q rfl rfl (q_moveI rfl) ?_ | refine l_q rfl rfl (q_move rfl) ?_
  refine l_q rfl rfl (q_build (ps := [(0, 1)]) (zv := .agg #[.int .i64 0]) (by kernel_rfl) (by kernel_rfl) rfl (by repeat' (first | exact trivial | refine ⟨fun _ => by first | rfl | assumption | exact one_if (by assumption), ?_⟩ | refine ⟨fun ⟨_, h⟩ => by simp at h, ?_⟩)) rfl) ?_
  refine l_q rfl rfl (q_makeInterface rfl (by kernel_rfl)) ?_
  refine l_e rfl (fun K hK => ?_)
  refine e_call (by kernel_rfl) (Is_some q e v _ hg hn (hl.keep id hS) (hE.nextR hS)) rfl (after_R hS (fun v3 w3 hv3 hS3 => ?_))
  clear hS; replace hv3 := hv3.symm; subst hv3
  refine hK _ _ ?_; clear hK K
  first | refine l_q rfl rfl (q_assignB rfl) ?_ | refine l_q rfl rfl (q_assign rfl) ?_
  refine l_nil ?_
  refine hK2 _ _ ?_
  refine wp_ret ?_
  refine c_ret1 rfl rfl ?_
  exact ⟨_, rfl, rfl, hS3.drop⟩

theorem Has_ok (q : Int) (e : Er) (v : Value) (w : World) (hg : e.Good) (hl : LaidV w) (hE : ErIn (Ro w (fun _ => False)) w e v) : Calls Tryd.prog 21 #[v, .int .i64 q] w (PostR w fun r => r = .bool (e.has q)) := by
  cases hn : e.isNil with
  | false => exact Has_some q e v w hg hn hl hE
  | true =>
    cases e with
    | nil => obtain rfl : v = .nilIface := hE; exact Has_nil q w
    | flt c a u => cases hn
    | jn x y => cases hn

end Go.Proofs.YtdlmcgflgdmjgaaDoor
