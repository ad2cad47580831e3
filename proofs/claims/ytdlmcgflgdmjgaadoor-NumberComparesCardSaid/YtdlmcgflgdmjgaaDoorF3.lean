/- errors.As at any error for a fault; package fault's first, Code, At. -/
import Derived.Test.YtdlmcgflgdmjgaaDoorF2
set_option linter.unusedVariables false
set_option linter.unusedSimpArgs false
namespace Go.Proofs.YtdlmcgflgdmjgaaDoor
open Go.RowKit
/-- The block of an error's first fault. -/
def FP (S : Nat → Prop) (w : World) : Er → Value → Nat → Prop
  | .nil, _, _ => False
  | .flt _ _ _, v, eb => v = fV eb
  | .jn x _, v, eb => ∃ b xv yv, v = jV b ∧ S b ∧ w.heap[b]? = some (jO xv yv) ∧ IsIf yv ∧ FP S w x xv eb
theorem FP.mono {S S' : Nat → Prop} {w w' : World} (hs : ∀ k, S k → S' k ∧ w'.heap[k]? = w.heap[k]?) : ∀ {e : Er} {v : Value} {eb : Nat}, FP S w e v eb → FP S' w' e v eb
  | .nil, v, _, h => h
  | .flt _ _ _, v, _, h => h
  | .jn _ _, v, _, ⟨b, xv, yv, h, hb, hh, hy, hx⟩ => ⟨b, xv, yv, h, (hs b hb).1, (hs b hb).2.trans hh, hy, hx.mono hs⟩
theorem FP.next {w0 w : World} {D : Nat → Prop} {Γ F : List Ch} (h : St w0 D (Γ ++ F) w) {e : Er} {v : Value} {eb : Nat} (hE : FP (Ro w0 D) w0 e v eb) : FP (Ro w (owns Γ)) w e v eb := hE.mono fun _ hk => ⟨hk.next h, hk.same h⟩
theorem FP.isIf {S : Nat → Prop} {w : World} : ∀ {e : Er} {v : Value} {eb : Nat}, FP S w e v eb → IsIf v ∧ isNilB v = false
  | .nil, v, _, h => h.elim
  | .flt _ _ _, v, _, h => ⟨.inr ⟨_, _, h⟩, by rw [h]; rfl⟩
  | .jn _ _, v, _, ⟨b, xv, yv, h, _⟩ => ⟨.inr ⟨_, _, h⟩, by rw [h]; rfl⟩
theorem ErIn.fp {S : Nat → Prop} {w : World} : ∀ {e : Er} {v : Value}, e.Good → e.isNil = false → ErIn S w e v → ∃ eb c a uv, e.first = some (c, a) ∧ S eb ∧ w.heap[eb]? = some (fO c a uv) ∧ FP S w e v eb
  | .nil, v, _, h, _ => by cases h
  | .flt c a u, v, _, _, ⟨b, uv, h, hb, hh, hu⟩ => ⟨b, c, a, uv, rfl, hb, hh, h⟩
  | .jn x y, v, hg, _, ⟨b, xv, yv, h, hb, hh, hx, hy⟩ => by
    obtain ⟨eb, c, a, uv, h1, h2, h3, h4⟩ := ErIn.fp hg.2.2.1 hg.1 hx
    exact ⟨eb, c, a, uv, by simp [Er.first, h1], h2, h3, b, xv, yv, h, hb, hh, hy.isIf, h4⟩
theorem m_JUnwrap (b : Nat) : methB Tryd.prog 89 (.pointer (some ⟨b, 0, none⟩)) "Unwrap" 108 (.pointer (some ⟨b, 0, none⟩)) := fun w => by kernel_rfl
theorem m_FUnwrap (b : Nat) : methB Tryd.prog 85 (.pointer (some ⟨b, 0, none⟩)) "Unwrap" 106 (.pointer (some ⟨b, 0, none⟩)) := fun w => by kernel_rfl
theorem m_FIs (b : Nat) : methB Tryd.prog 85 (.pointer (some ⟨b, 0, none⟩)) "Is" 105 (.pointer (some ⟨b, 0, none⟩)) := fun w => by kernel_rfl
attribute [local irreducible] Oper.wp Sem.run Code.wp wpList wpAnyO callFunc execOp Calls

set_option maxRecDepth 100000 in
theorem JUnwrap_ok (b : Nat) (xv yv : Value) (w : World) (hr : Ro w (fun _ => False) b) (hb : w.heap[b]? = some (jO xv yv)) (hx : IsIf xv) (hy : IsIf yv) : Calls Tryd.prog 108 #[.pointer (some ⟨b, 0, none⟩)] w (PostN w fun v G => ∃ sb, v = .slice (some ⟨sb, 0, none⟩) 2 2 ∧ G = [.blk sb (.cells #[xv, yv] 29)]) := by
  have hS := St.start w
  refine c_enter Tryd.func108 rfl rfl rfl ?_
  refine wp_seq_k (fun K1 hK1 => ?_)
  refine wp_region_lit ?_
  first | refine l_q rfl rfl (q_assignS rfl) ?_ | refine l_q rfl rfl (q_assign rfl) ?_
  refine l_nil ?_
  refine hK1 _ _ ?_
  refine wp_seq_k (fun K2 hK2 => ?_)
  refine r_any (by kernel_rfl) hS (fun w3 hS3 => ?_)
  clear hS
  first | refine o_pure (i := 0) (fun _ _ => trivial) rfl rfl (by kernel_rfl) (goes0 rfl) (QOk.then QOk.body) (fun w => q_moveP rfl) ?_ | refine o_pure (i := 0) (fun _ _ => trivial) rfl rfl (by kernel_rfl) (goes0 rfl) (QOk.then QOk.body) (fun w => q_move rfl) ?_
  refine o_pure (i := 1) (fun _ _ => trivial) rfl rfl (by kernel_rfl) (goes0 rfl) (QOk.then QOk.body) (fun w => q_nilCheck rfl) ?_
  refine o_pure (i := 2) (fun _ _ => trivial) rfl rfl (by kernel_rfl) (goes0 rfl) (QOk.then QOk.body) (fun w => q_fieldAddr (ft := 29) (o := 0) rfl (by kernel_rfl)) ?_
  refine o_held (i := 3) [8, 9] (fun _ _ => trivial) rfl rfl (by kernel_rfl) (goes0 rfl) (QOk.then QOk.body) (q_load1 rfl (by kernel_rfl) (cell_blk ((hr.same hS3).trans hb) rfl)) ?_
  first | refine o_pure (i := 4) (fun j w => ⟨(fun _ _ => trivial) j w, fun _ h => h⟩) rfl rfl (by kernel_rfl) (goes0 rfl) (QOk.then QOk.body) (fun w => q_moveP rfl) ?_ | refine o_pure (i := 4) (fun j w => ⟨(fun _ _ => trivial) j w, fun _ h => h⟩) rfl rfl (by kernel_rfl) (goes0 rfl) (QOk.then QOk.body) (fun w => q_move rfl) ?_
  refine o_pure (i := 5) (fun j w => ⟨(fun _ _ => trivial) j w, fun _ h => h⟩) rfl rfl (by kernel_rfl) (goes0 rfl) (QOk.then QOk.body) (fun w => q_nilCheck rfl) ?_
  refine o_pure (i := 6) (fun j w => ⟨(fun _ _ => trivial) j w, fun _ h => h⟩) rfl rfl (by kernel_rfl) (goes0 rfl) (QOk.then QOk.body) (fun w => q_fieldAddr (ft := 29) (o := 1) rfl (by kernel_rfl)) ?_
  refine o_held (i := 7) [8, 9] (fun j w => ⟨(fun _ _ => trivial) j w, fun _ h => h⟩) rfl rfl (by kernel_rfl) (goes0 rfl) (QOk.then QOk.body) (q_load1 rfl (by kernel_rfl) (cell_blk ((hr.same hS3).trans hb) rfl)) ?_
  refine o_eff (i := 8) (by kernel_rfl) rfl (goes0 rfl) (fun K hK => ?_)
  refine e_buildSlice1 (e := 29) (zv := .nilIface) (xs := [.tmp 6, .tmp 10]) hS3 (by kernel_rfl) (by kernel_rfl) (by kernel_rfl) rfl rfl rfl rfl (ones2 (one_if hx) (one_if hy)) rfl (fun b4 w4 hS4 => ?_)
  clear hS3
  refine hK _ _ ⟨⟨trivial, fun h => absurd h (by decide)⟩, fun h => absurd h (by decide)⟩ ?_; clear hK K
  first | refine o_pure (i := 9) (fun j w => ⟨(fun j w => ⟨(fun _ _ => trivial) j w, fun _ h => h⟩) j w, fun _ h => h⟩) rfl rfl (by kernel_rfl) (goes0 rfl) (QOk.then QOk.body) (fun w => q_assignS rfl) ?_ | refine o_pure (i := 9) (fun j w => ⟨(fun j w => ⟨(fun _ _ => trivial) j w, fun _ h => h⟩) j w, fun _ h => h⟩) rfl rfl (by kernel_rfl) (goes0 rfl) (QOk.then QOk.body) (fun w => q_assign rfl) ?_
  refine o_done (by kernel_rfl) ?_
  refine hK2 _ _ ?_
  refine wp_ret ?_
  refine c_ret1 rfl rfl ?_
  exact ⟨_, _, rfl, ⟨_, rfl, rfl⟩, hS4⟩

set_option maxRecDepth 100000 in
theorem FUnwrap_ok (b : Nat) (c a : Int) (uv : Value) (w : World) (hr : Ro w (fun _ => False) b) (hb : w.heap[b]? = some (fO c a uv)) : Calls Tryd.prog 106 #[.pointer (some ⟨b, 0, none⟩)] w (PostR w fun v => v = uv) := by
  have hS := St.start w
  refine c_enter Tryd.func106 rfl rfl rfl ?_
  refine wp_seq_k (fun K1 hK1 => ?_)
  refine wp_region_lit ?_
  refine l_q rfl rfl (q_assign rfl) ?_
  refine l_nil ?_
  refine hK1 _ _ ?_
  refine wp_seq_k (fun K2 hK2 => ?_)
  refine wp_region_lit ?_
  first | refine l_q rfl rfl (q_moveP rfl) ?_ | refine l_q rfl rfl (q_move rfl) ?_
  refine l_q rfl rfl (q_nilCheck rfl) ?_
  refine l_q rfl rfl (q_fieldAddr (ft := 29) (o := 2) rfl (by kernel_rfl)) ?_
  refine l_q rfl rfl (q_load1 rfl (by kernel_rfl) (cell_blk ((hr.same hS).trans hb) rfl)) ?_
  refine l_q rfl rfl (q_assign rfl) ?_
  refine l_nil ?_
  refine hK2 _ _ ?_
  refine wp_ret ?_
  refine c_ret1 rfl rfl ?_
  exact ⟨_, rfl, rfl, hS⟩

def AsF (e : Er) : Prop := ∀ (v : Value) (eb tb vb : Nat) (old : Value) (w : World), St w (owns [.blk tb (.cells #[old] 85)]) [.blk tb (.cells #[old] 85)] w → Ro w (owns [.blk tb (.cells #[old] 85)]) vb → w.heap[vb]? = some (.cells #[.pointer (some ⟨tb, 0, none⟩)] 115) → FP (Ro w (owns [.blk tb (.cells #[old] 85)])) w e v eb →
  Calls Tryd.prog 79 #[v, .iface 115 (.pointer (some ⟨tb, 0, none⟩)), rv 115 vb 150, rt 85] w (Post w [.blk tb (.cells #[old] 85)] fun r G => r = .bool true ∧ G = [.blk tb (.cells #[.pointer (some ⟨eb, 0, none⟩)] 85)])
set_option maxRecDepth 100000 in
theorem as_jn (x y : Er) (ih : AsF x) (b : Nat) (xv yv : Value) (eb tb vb : Nat) (old : Value) (w : World) (hS : St w (owns [.blk tb (.cells #[old] 85)]) [.blk tb (.cells #[old] 85)] w) (hr : Ro w (owns [.blk tb (.cells #[old] 85)]) vb) (hv : w.heap[vb]? = some (.cells #[.pointer (some ⟨tb, 0, none⟩)] 115)) (hrb : Ro w (owns [.blk tb (.cells #[old] 85)]) b) (hb : w.heap[b]? = some (jO xv yv)) (hx : FP (Ro w (owns [.blk tb (.cells #[old] 85)])) w x xv eb) (hxi : IsIf xv) (hxn : isNilB xv = false) (hyi : IsIf yv) : Calls Tryd.prog 79 #[jV b, .iface 115 (.pointer (some ⟨tb, 0, none⟩)), rv 115 vb 150, rt 85] w (Post w [.blk tb (.cells #[old] 85)] fun v G => v = .bool true ∧ G = [.blk tb (.cells #[.pointer (some ⟨eb, 0, none⟩)] 85)]) := by
  refine c_enter Tryd.func79 rfl rfl rfl ?_
  refine wp_seq_k (fun K1 hK1 => ?_)
  refine wp_region_lit ?_
  refine l_e rfl (fun K hK => ?_)
  first | refine e_boxA hS rfl (fun b2 w2 hS2 => ?_) | refine e_box hS rfl (fun b2 w2 hS2 => ?_)
  clear hS
  refine hK _ _ ?_; clear hK K
  first | refine l_q rfl rfl (q_assignB rfl) ?_ | refine l_q rfl rfl (q_assign rfl) ?_
  refine l_nil ?_
  refine hK1 _ _ ?_
  refine wp_block ?_
  refine c_rounds 1 ?_
  refine c_round ?_
  refine wp_block ?_
  refine wp_seq_k (fun K3 hK3 => ?_)
  refine wp_seq_k (fun K4 hK4 => ?_)
  refine wp_region_lit ?_
  refine l_q rfl rfl (q_move rfl) ?_
  refine l_q rfl rfl (q_ext rfl (TypeOf_J _ _)) ?_
  refine l_q rfl rfl (q_move rfl) ?_
  refine l_q rfl rfl (q_extI rfl (m_AssignableTo _) rfl (Assign_JF _)) ?_
  refine l_nil ?_
  refine hK4 _ _ ?_
  refine c_condF rfl rfl ?_
  refine wp_skip ?_
  refine hK3 _ _ ?_
  refine wp_seq_k (fun K6 hK6 => ?_)
  refine wp_seq_k (fun K7 hK7 => ?_)
  refine wp_region_lit ?_
  refine l_q rfl rfl (q_move rfl) ?_
  refine l_q rfl rfl (q_taIMiss (z := .nilIface) rfl (by kernel_rfl) (by kernel_rfl)) ?_
  refine l_q rfl rfl (q_move rfl) ?_
  refine l_q rfl rfl (q_extract rfl rfl) ?_
  refine l_q rfl rfl (q_extract rfl rfl) ?_
  refine l_q rfl rfl (q_assign rfl) ?_
  first | refine l_q rfl rfl (q_assignB rfl) ?_ | refine l_q rfl rfl (q_assign rfl) ?_
  refine l_nil ?_
  refine hK7 _ _ ?_
  refine wp_seq_k (fun K8 hK8 => ?_)
  refine wp_region_lit ?_
  first | refine l_q rfl rfl (q_moveB rfl) ?_ | refine l_q rfl rfl (q_move rfl) ?_
  first | refine l_q rfl rfl (q_moveB rfl) ?_ | refine l_q rfl rfl (q_move rfl) ?_
  refine l_off rfl rfl rfl rfl ?_
  refine l_off rfl rfl rfl rfl ?_
  refine l_off rfl rfl rfl rfl ?_
  refine l_q rfl rfl (q_pickF rfl rfl rfl) ?_
  refine l_nil ?_
  refine hK8 _ _ ?_
  refine c_condF rfl rfl ?_
  refine wp_skip ?_
  refine hK6 _ _ ?_
  refine wp_seq_k (fun K11 hK11 => ?_)
  refine wp_region_lit ?_
  refine l_q rfl rfl (q_move rfl) ?_
  refine l_nil ?_
  refine hK11 _ _ ?_
  refine wp_block ?_
  refine wp_seq_k (fun K12 hK12 => ?_)
  refine wp_region_lit ?_
  refine l_q rfl rfl (q_taIMiss (z := .nilIface) rfl (by kernel_rfl) (by kernel_rfl)) ?_
  refine l_q rfl rfl (q_extract rfl rfl) ?_
  refine l_q rfl rfl (q_extract rfl rfl) ?_
  refine l_nil ?_
  refine hK12 _ _ ?_
  refine c_condF rfl rfl ?_
  refine wp_seq_k (fun K14 hK14 => ?_)
  refine wp_region_lit ?_
  refine l_q rfl rfl (q_taIHit rfl (by kernel_rfl)) ?_
  refine l_q rfl rfl (q_extract rfl rfl) ?_
  refine l_q rfl rfl (q_extract rfl rfl) ?_
  refine l_nil ?_
  refine hK14 _ _ ?_
  refine c_condT rfl rfl ?_
  refine wp_seq_k (fun K16 hK16 => ?_)
  refine wp_region_lit ?_
  refine l_q rfl rfl (q_assign rfl) ?_
  refine l_nil ?_
  refine hK16 _ _ ?_
  refine wp_seq_k (fun K17 hK17 => ?_)
  refine wp_seq_k (fun K18 hK18 => ?_)
  refine wp_region_lit ?_
  refine l_q rfl rfl (q_move rfl) ?_
  refine l_e rfl (fun K hK => ?_)
  refine e_invoke (by kernel_rfl) rfl (m_JUnwrap _) (JUnwrap_ok b xv yv _ (hrb.nextR hS2) ((hrb.same hS2).trans hb) hxi hyi) rfl (after_N hS2 (fun v19 G19 w19 hv19 hS19 => ?_))
  clear hS2; obtain ⟨sb, rfl, rfl⟩ := hv19
  refine hK _ _ ?_; clear hK K
  refine l_q rfl rfl (q_lenSl (e := 29) rfl (by kernel_rfl)) ?_
  first | refine l_q rfl rfl (q_moveI rfl) ?_ | refine l_q rfl rfl (q_move rfl) ?_
  refine l_nil ?_
  refine hK18 _ _ ?_
  refine wp_block ?_
  refine c_rounds 1 ?_
  refine c_round ?_
  refine wp_seq_k (fun K20 hK20 => ?_)
  refine wp_region_lit ?_
  refine l_q rfl rfl (q_lss rfl rfl) ?_
  refine l_nil ?_
  refine hK20 _ _ ?_
  refine wp_seq_k (fun K21 hK21 => ?_)
  refine c_condT rfl rfl ?_
  refine wp_skip ?_
  refine hK21 _ _ ?_
  refine wp_seq_k (fun K23 hK23 => ?_)
  refine wp_block ?_
  refine wp_seq_k (fun K24 hK24 => ?_)
  refine wp_region_lit ?_
  refine l_q rfl rfl (q_indexAddr (e := 29) (m := 1) rfl rfl (by kernel_rfl) (by kernel_rfl) (by first | decide | omega) (by first | decide | omega)) ?_
  refine l_q rfl rfl (q_load1 rfl (by kernel_rfl) (by first | exact hS19.cell (i := 0) rfl rfl | exact hS19.cell (i := 1) rfl rfl | exact hS19.cell (i := 2) rfl rfl | exact hS19.cell (i := 3) rfl rfl | exact hS19.cell (i := 4) rfl rfl | exact hS19.cell (i := 5) rfl rfl | exact hS19.cell (i := 6) rfl rfl | exact hS19.cell (i := 7) rfl rfl | assumption)) ?_
  refine l_q rfl rfl (q_assign rfl) ?_
  refine l_nil ?_
  refine hK24 _ _ ?_
  refine wp_seq_k (fun K25 hK25 => ?_)
  refine wp_seq_k (fun K26 hK26 => ?_)
  refine wp_region_lit ?_
  refine l_q rfl rfl (q_move rfl) ?_
  first | refine l_q rfl rfl (q_ieq0 rfl (by kernel_rfl)) ?_ | refine l_q rfl rfl (q_ieq1 rfl (by kernel_rfl)) ?_ | refine l_q rfl rfl (q_ieq rfl (by assumption) (by kernel_rfl)) ?_
  refine l_nil ?_
  refine hK26 _ _ ?_
  refine c_condF rfl hxn ?_
  refine wp_skip ?_
  refine hK25 _ _ ?_
  refine wp_seq_k (fun K28 hK28 => ?_)
  refine wp_region_lit ?_
  refine l_q rfl rfl (q_move rfl) ?_
  refine l_q rfl rfl (q_move rfl) ?_
  refine l_q rfl rfl (q_loadA (m := 3) rfl (by kernel_rfl) (by kernel_rfl) (by first | exact hS19.blk (i := 0) rfl | exact hS19.blk (i := 1) rfl | exact hS19.blk (i := 2) rfl | exact hS19.blk (i := 3) rfl | exact hS19.blk (i := 4) rfl | exact hS19.blk (i := 5) rfl | exact hS19.blk (i := 6) rfl | exact hS19.blk (i := 7) rfl | assumption) rfl rfl) ?_
  refine l_q rfl rfl (q_move rfl) ?_
  refine l_e rfl (fun K hK => ?_)
  have hP29 := hS19.perm (List.perm_append_comm (l₁ := [_, _]) (l₂ := [_]))
  refine e_call (by kernel_rfl) (ih _ _ _ _ _ _ (St.begin (Γ := [_]) hP29) (hr.next (Γ := [_]) hP29) ((hr.same hS19).trans hv) (hx.next (Γ := [_]) hP29)) rfl (after_M (Γ1 := [_]) hP29 (fun v29 G29 w29 hv29 hS29 => ?_))
  clear hS19 hP29; obtain ⟨rfl, rfl⟩ := hv29
  refine hK _ _ ?_; clear hK K
  refine l_nil ?_
  refine hK28 _ _ ?_
  refine c_condT rfl rfl ?_
  refine wp_seq_k (fun K31 hK31 => ?_)
  refine wp_region_lit ?_
  first | refine l_q rfl rfl (q_assignB rfl) ?_ | refine l_q rfl rfl (q_assign rfl) ?_
  refine l_nil ?_
  refine hK31 _ _ ?_
  refine wp_ret ?_
  refine c_ret1 rfl rfl ?_
  exact ⟨_, _, rfl, ⟨rfl, rfl⟩, hS29.sub (.cons_cons _ (List.nil_sublist _))⟩

theorem asF : ∀ (e : Er), e.Good → AsF e
  | .nil, _ => fun _ _ _ _ _ _ _ _ _ h => h.elim
  | .flt c a u, _ => fun v eb tb vb old w hS hr hv h => by
    obtain rfl : v = fV eb := h
    exact as_hit_F eb tb vb old w hS hr hv
  | .jn x y, hg => fun v eb tb vb old w hS hr hv h => by
    obtain ⟨b, xv, yv, rfl, hb, hh, hy, hx⟩ := h
    exact as_jn x y (asF x hg.2.2.1) b xv yv eb tb vb old w hS hr hv hb hh hx hx.isIf.1 hx.isIf.2 hy
set_option maxRecDepth 100000 in
theorem As_F (e : Er) (hA : AsF e) (v : Value) (hvi : IsIf v) (hn : isNilB v = false) (eb tb : Nat) (h0 : tb ≠ 0) (old : Value) (w : World) (hS : St w (owns [.blk tb (.cells #[old] 85)]) [.blk tb (.cells #[old] 85)] w) (hl : LaidV w) (hf : FP (Ro w (owns [.blk tb (.cells #[old] 85)])) w e v eb) : Calls Tryd.prog 62 #[v, .iface 115 (.pointer (some ⟨tb, 0, none⟩))] w (Post w [.blk tb (.cells #[old] 85)] fun v G => v = .bool true ∧ G = [.blk tb (.cells #[.pointer (some ⟨eb, 0, none⟩)] 85)]) := by
  refine c_enter Tryd.func62 rfl rfl rfl ?_
  refine wp_seq_k (fun K1 hK1 => ?_)
  refine wp_region_lit ?_
  first | refine l_q rfl rfl (q_assignB rfl) ?_ | refine l_q rfl rfl (q_assign rfl) ?_
  refine l_nil ?_
  refine hK1 _ _ ?_
  refine wp_seq_k (fun K2 hK2 => ?_)
  refine wp_seq_k (fun K3 hK3 => ?_)
  refine wp_region_lit ?_
  refine l_q rfl rfl (q_move rfl) ?_
  first | refine l_q rfl rfl (q_ieq0 rfl (by kernel_rfl)) ?_ | refine l_q rfl rfl (q_ieq1 rfl (by kernel_rfl)) ?_ | refine l_q rfl rfl (q_ieq rfl (by assumption) (by kernel_rfl)) ?_
  refine l_nil ?_
  refine hK3 _ _ ?_
  refine c_condF rfl hn ?_
  refine wp_skip ?_
  refine hK2 _ _ ?_
  refine wp_seq_k (fun K5 hK5 => ?_)
  refine wp_seq_k (fun K6 hK6 => ?_)
  refine wp_region_lit ?_
  refine l_q rfl rfl (q_move rfl) ?_
  first | refine l_q rfl rfl (q_ieq0 rfl (by kernel_rfl)) ?_ | refine l_q rfl rfl (q_ieq1 rfl (by kernel_rfl)) ?_ | refine l_q rfl rfl (q_ieq rfl (by assumption) (by kernel_rfl)) ?_
  refine l_nil ?_
  refine hK6 _ _ ?_
  refine c_condF rfl rfl ?_
  refine wp_skip ?_
  refine hK5 _ _ ?_
  refine wp_seq_k (fun K8 hK8 => ?_)
  refine wp_region_lit ?_
  refine l_q rfl rfl (q_move rfl) ?_
  refine l_e rfl (fun K hK => ?_)
  first | refine e_extA (fun b => rv 115 b 150) hS rfl (ValueOf_PF _ _) (fun b9 w9 hS9 => ?_)
  clear hS
  refine hK _ _ ?_; clear hK K
  refine l_e rfl (fun K hK => ?_)
  refine e_alloc (zv := .agg #[.pointer none, .pointer none, .int .u64 0]) hS9 (by kernel_rfl) (fun b10 w10 hS10 => ?_)
  clear hS9
  refine hK _ _ ?_; clear hK K
  refine l_e rfl (fun K hK => ?_)
  first | refine e_storeA hS10 rfl rfl (by kernel_rfl) (by repeat' (first | exact trivial | refine ⟨by first | rfl | assumption | exact one_if (by assumption), ?_⟩)) (i := 0) rfl rfl (fun w11 hS11 => ?_) | refine e_storeA hS10 rfl rfl (by kernel_rfl) (by repeat' (first | exact trivial | refine ⟨by first | rfl | assumption | exact one_if (by assumption), ?_⟩)) (i := 1) rfl rfl (fun w11 hS11 => ?_) | refine e_storeA hS10 rfl rfl (by kernel_rfl) (by repeat' (first | exact trivial | refine ⟨by first | rfl | assumption | exact one_if (by assumption), ?_⟩)) (i := 2) rfl rfl (fun w11 hS11 => ?_) | refine e_storeA hS10 rfl rfl (by kernel_rfl) (by repeat' (first | exact trivial | refine ⟨by first | rfl | assumption | exact one_if (by assumption), ?_⟩)) (i := 3) rfl rfl (fun w11 hS11 => ?_) | refine e_storeA hS10 rfl rfl (by kernel_rfl) (by repeat' (first | exact trivial | refine ⟨by first | rfl | assumption | exact one_if (by assumption), ?_⟩)) (i := 4) rfl rfl (fun w11 hS11 => ?_) | refine e_storeA hS10 rfl rfl (by kernel_rfl) (by repeat' (first | exact trivial | refine ⟨by first | rfl | assumption | exact one_if (by assumption), ?_⟩)) (i := 5) rfl rfl (fun w11 hS11 => ?_) | refine e_storeA hS10 rfl rfl (by kernel_rfl) (by repeat' (first | exact trivial | refine ⟨by first | rfl | assumption | exact one_if (by assumption), ?_⟩)) (i := 6) rfl rfl (fun w11 hS11 => ?_) | refine e_storeA hS10 rfl rfl (by kernel_rfl) (by repeat' (first | exact trivial | refine ⟨by first | rfl | assumption | exact one_if (by assumption), ?_⟩)) (i := 7) rfl rfl (fun w11 hS11 => ?_)
  clear hS10
  refine hK _ _ ?_; clear hK K
  refine l_nil ?_
  refine hK8 _ _ ?_
  refine wp_seq_k (fun K12 hK12 => ?_)
  refine wp_region_lit ?_
  refine l_q rfl rfl (q_loadA (m := 3) rfl (by kernel_rfl) (by kernel_rfl) (by first | exact hS11.blk (i := 0) rfl | exact hS11.blk (i := 1) rfl | exact hS11.blk (i := 2) rfl | exact hS11.blk (i := 3) rfl | exact hS11.blk (i := 4) rfl | exact hS11.blk (i := 5) rfl | exact hS11.blk (i := 6) rfl | exact hS11.blk (i := 7) rfl | assumption) rfl rfl) ?_
  refine l_q rfl rfl (q_ext rfl (Type_PF _ _)) ?_
  refine l_q rfl rfl (q_assign rfl) ?_
  refine l_nil ?_
  refine hK12 _ _ ?_
  refine wp_seq_k (fun K13 hK13 => ?_)
  refine wp_seq_k (fun K14 hK14 => ?_)
  refine wp_region_lit ?_
  refine l_q rfl rfl (q_move rfl) ?_
  refine l_q rfl rfl (q_extI rfl (m_Kind _) rfl (Kind_PF _)) ?_
  refine l_q rfl rfl (q_neq rfl rfl) ?_
  first | refine l_q rfl rfl (q_moveB rfl) ?_ | refine l_q rfl rfl (q_move rfl) ?_
  refine l_on rfl rfl rfl ?_
  refine l_q rfl rfl (q_loadA (m := 3) rfl (by kernel_rfl) (by kernel_rfl) (by first | exact hS11.blk (i := 0) rfl | exact hS11.blk (i := 1) rfl | exact hS11.blk (i := 2) rfl | exact hS11.blk (i := 3) rfl | exact hS11.blk (i := 4) rfl | exact hS11.blk (i := 5) rfl | exact hS11.blk (i := 6) rfl | exact hS11.blk (i := 7) rfl | assumption) rfl rfl) ?_
  refine l_on rfl rfl rfl ?_
  refine l_q rfl rfl (q_ext rfl (IsNil_PF _ _ _ (hS11.cell (i := 1) rfl rfl))) ?_
  refine l_q rfl rfl (q_pickF rfl rfl rfl) ?_
  refine l_nil ?_
  refine hK14 _ _ ?_
  refine c_condF rfl rfl ?_
  refine wp_skip ?_
  refine hK13 _ _ ?_
  refine wp_seq_k (fun K17 hK17 => ?_)
  refine wp_region_lit ?_
  refine l_q rfl rfl (q_move rfl) ?_
  refine l_q rfl rfl (q_extI rfl (m_Elem _) rfl (TElem_PF _)) ?_
  refine l_q rfl rfl (q_assign rfl) ?_
  refine l_nil ?_
  refine hK17 _ _ ?_
  refine wp_seq_k (fun K18 hK18 => ?_)
  refine wp_seq_k (fun K19 hK19 => ?_)
  refine wp_region_lit ?_
  refine l_q rfl rfl (q_move rfl) ?_
  refine l_q rfl rfl (q_extI rfl (m_Kind _) rfl (Kind_F _)) ?_
  refine l_q rfl rfl (q_neq rfl rfl) ?_
  first | refine l_q rfl rfl (q_moveB rfl) ?_ | refine l_q rfl rfl (q_move rfl) ?_
  refine l_on rfl rfl rfl ?_
  refine l_q rfl rfl (q_move rfl) ?_
  have hL := hl.keep (nown1 h0) hS11
  refine l_on rfl rfl rfl ?_
  refine l_q rfl rfl (q_load1 rfl (by kernel_rfl) (by first | exact hS11.cell (i := 0) rfl rfl | exact hS11.cell (i := 1) rfl rfl | exact hS11.cell (i := 2) rfl rfl | exact hS11.cell (i := 3) rfl rfl | exact hS11.cell (i := 4) rfl rfl | exact hS11.cell (i := 5) rfl rfl | exact hS11.cell (i := 6) rfl rfl | exact hS11.cell (i := 7) rfl rfl | assumption)) ?_
  refine l_on rfl rfl rfl ?_
  refine l_q rfl rfl (q_extI rfl (m_Implements _) rfl (Implements_F _)) ?_
  refine l_on rfl rfl rfl ?_
  refine l_q rfl rfl (q_not rfl) ?_
  refine l_q rfl rfl (q_pickT rfl rfl rfl) ?_
  refine l_nil ?_
  refine hK19 _ _ ?_
  refine c_condF rfl rfl ?_
  refine wp_skip ?_
  refine hK18 _ _ ?_
  refine wp_seq_k (fun K22 hK22 => ?_)
  refine wp_region_lit ?_
  refine l_q rfl rfl (q_move rfl) ?_
  refine l_q rfl rfl (q_move rfl) ?_
  refine l_q rfl rfl (q_loadA (m := 3) rfl (by kernel_rfl) (by kernel_rfl) (by first | exact hS11.blk (i := 0) rfl | exact hS11.blk (i := 1) rfl | exact hS11.blk (i := 2) rfl | exact hS11.blk (i := 3) rfl | exact hS11.blk (i := 4) rfl | exact hS11.blk (i := 5) rfl | exact hS11.blk (i := 6) rfl | exact hS11.blk (i := 7) rfl | assumption) rfl rfl) ?_
  refine l_q rfl rfl (q_move rfl) ?_
  refine l_e rfl (fun K hK => ?_)
  have hP23 := hS11.perm (List.perm_append_comm (l₁ := [_, _]) (l₂ := [_]))
  refine e_call (by kernel_rfl) (hA _ _ _ _ _ _ (St.begin (Γ := [_]) hP23) (Ro.ofF (Γ := [_]) hP23 (.tail _ (.head _)) rfl) (hS11.blk (i := 1) rfl) (hf.next (Γ := [_]) hP23)) rfl (after_M (Γ1 := [_]) hP23 (fun v23 G23 w23 hv23 hS23 => ?_))
  clear hS11 hP23; obtain ⟨rfl, rfl⟩ := hv23
  refine hK _ _ ?_; clear hK K
  first | refine l_q rfl rfl (q_assignB rfl) ?_ | refine l_q rfl rfl (q_assign rfl) ?_
  refine l_nil ?_
  refine hK22 _ _ ?_
  refine wp_ret ?_
  refine c_ret1 rfl rfl ?_
  exact ⟨_, _, rfl, ⟨rfl, rfl⟩, hS23.sub (.cons_cons _ (List.nil_sublist _))⟩

set_option maxRecDepth 100000 in
theorem first_nilQ (w : World) : Calls Tryd.prog 43 #[.nilIface] w (PostR w fun v => v = .pointer none) := by
  have hS := St.start w
  refine c_enter Tryd.func43 rfl rfl rfl ?_
  refine wp_seq_k (fun K1 hK1 => ?_)
  refine wp_region_lit ?_
  first | refine l_q rfl rfl (q_assignP rfl) ?_ | refine l_q rfl rfl (q_assign rfl) ?_
  refine l_nil ?_
  refine hK1 _ _ ?_
  refine wp_seq_k (fun K2 hK2 => ?_)
  refine wp_region_lit ?_
  refine l_e rfl (fun K hK => ?_)
  refine e_alloc (zv := .pointer none) hS (by kernel_rfl) (fun b3 w3 hS3 => ?_)
  clear hS
  refine hK _ _ ?_; clear hK K
  refine l_nil ?_
  refine hK2 _ _ ?_
  refine wp_seq_k (fun K4 hK4 => ?_)
  refine wp_region_lit ?_
  refine l_q rfl rfl (q_move rfl) ?_
  refine l_q rfl rfl (q_makeInterface rfl (by kernel_rfl)) ?_
  refine l_e rfl (fun K hK => ?_)
  refine e_call (by kernel_rfl) (As_nil _ _) rfl (after_R hS3 (fun v5 w5 hv5 hS5 => ?_))
  clear hS3; subst hv5
  refine hK _ _ ?_; clear hK K
  refine l_nil ?_
  refine hK4 _ _ ?_
  refine wp_seq_k (fun K6 hK6 => ?_)
  refine wp_region_lit ?_
  refine l_q rfl rfl (q_load1 rfl (by kernel_rfl) (by first | exact hS5.cell (i := 0) rfl rfl | exact hS5.cell (i := 1) rfl rfl | exact hS5.cell (i := 2) rfl rfl | exact hS5.cell (i := 3) rfl rfl | exact hS5.cell (i := 4) rfl rfl | exact hS5.cell (i := 5) rfl rfl | exact hS5.cell (i := 6) rfl rfl | exact hS5.cell (i := 7) rfl rfl | assumption)) ?_
  first | refine l_q rfl rfl (q_assignP rfl) ?_ | refine l_q rfl rfl (q_assign rfl) ?_
  refine l_nil ?_
  refine hK6 _ _ ?_
  refine wp_ret ?_
  refine c_ret1 rfl rfl ?_
  exact ⟨_, rfl, rfl, hS5.drop⟩

set_option maxRecDepth 100000 in
theorem first_some (e : Er) (hg : e.Good) (v : Value) (eb : Nat) (w : World) (hl : LaidV w) (hf : FP (Ro w (fun _ => False)) w e v eb) : Calls Tryd.prog 43 #[v] w (PostR w fun v => v = .pointer (some ⟨eb, 0, none⟩)) := by
  have hS := St.start w
  refine c_enter Tryd.func43 rfl rfl rfl ?_
  refine wp_seq_k (fun K1 hK1 => ?_)
  refine wp_region_lit ?_
  first | refine l_q rfl rfl (q_assignP rfl) ?_ | refine l_q rfl rfl (q_assign rfl) ?_
  refine l_nil ?_
  refine hK1 _ _ ?_
  refine wp_seq_k (fun K2 hK2 => ?_)
  refine wp_region_lit ?_
  refine l_e rfl (fun K hK => ?_)
  refine e_alloc (zv := .pointer none) hS (by kernel_rfl) (fun b3 w3 hS3 => ?_)
  clear hS
  refine hK _ _ ?_; clear hK K
  refine l_nil ?_
  refine hK2 _ _ ?_
  refine wp_seq_k (fun K4 hK4 => ?_)
  refine wp_region_lit ?_
  refine l_q rfl rfl (q_move rfl) ?_
  refine l_q rfl rfl (q_makeInterface rfl (by kernel_rfl)) ?_
  refine l_e rfl (fun K hK => ?_)
  have hb0 : b3 ≠ 0 := by have h1 := (hS3.sat.get (i := 0) rfl).2 _ rfl; have h2 := hl.pos; rcases h1.1 with h1 | h1; exact h1.elim; omega
  refine e_call (by kernel_rfl) (As_F e (asF e hg) _ hf.isIf.1 hf.isIf.2 _ _ hb0 _ _ (St.begin (Γ := [_]) (F := []) hS3) (hl.keep id hS3) (hf.next (Γ := [_]) (F := []) hS3)) rfl (after_M (Γ1 := [_]) (F := []) hS3 (fun v5 G5 w5 hv5 hS5 => ?_))
  clear hS3; obtain ⟨rfl, rfl⟩ := hv5
  refine hK _ _ ?_; clear hK K
  refine l_nil ?_
  refine hK4 _ _ ?_
  refine wp_seq_k (fun K6 hK6 => ?_)
  refine wp_region_lit ?_
  refine l_q rfl rfl (q_load1 rfl (by kernel_rfl) (by first | exact hS5.cell (i := 0) rfl rfl | exact hS5.cell (i := 1) rfl rfl | exact hS5.cell (i := 2) rfl rfl | exact hS5.cell (i := 3) rfl rfl | exact hS5.cell (i := 4) rfl rfl | exact hS5.cell (i := 5) rfl rfl | exact hS5.cell (i := 6) rfl rfl | exact hS5.cell (i := 7) rfl rfl | assumption)) ?_
  first | refine l_q rfl rfl (q_assignP rfl) ?_ | refine l_q rfl rfl (q_assign rfl) ?_
  refine l_nil ?_
  refine hK6 _ _ ?_
  refine wp_ret ?_
  refine c_ret1 rfl rfl ?_
  exact ⟨_, rfl, rfl, hS5.drop⟩

set_option maxRecDepth 100000 in
theorem Code_nil (w : World) : Calls Tryd.prog 22 #[.nilIface] w (PostR w fun v => v = .int .i64 0) := by
  have hS := St.start w
  refine c_enter Tryd.func22 rfl rfl rfl ?_
  refine wp_seq_k (fun K1 hK1 => ?_)
  refine wp_region_lit ?_
  first | refine l_q rfl rfl (q_assignI rfl) ?_ | refine l_q rfl rfl (q_assign rfl) ?_
  refine l_nil ?_
  refine hK1 _ _ ?_
  refine wp_seq_k (fun K2 hK2 => ?_)
  refine wp_seq_k (fun K3 hK3 => ?_)
  refine wp_region_lit ?_
  refine l_q rfl rfl (q_move rfl) ?_
  refine l_e rfl (fun K hK => ?_)
  refine e_call (by kernel_rfl) (first_nilQ _) rfl (after_R hS (fun v4 w4 hv4 hS4 => ?_))
  clear hS; subst hv4
  refine hK _ _ ?_; clear hK K
  first | refine l_q rfl rfl (q_assignP rfl) ?_ | refine l_q rfl rfl (q_assign rfl) ?_
  refine l_nil ?_
  refine hK3 _ _ ?_
  refine wp_seq_k (fun K5 hK5 => ?_)
  refine wp_region_lit ?_
  first | refine l_q rfl rfl (q_moveP rfl) ?_ | refine l_q rfl rfl (q_move rfl) ?_
  refine l_q rfl rfl (q_pne rfl (by kernel_rfl)) ?_
  refine l_nil ?_
  refine hK5 _ _ ?_
  refine c_condF rfl rfl ?_
  refine wp_skip ?_
  refine hK2 _ _ ?_
  refine wp_seq_k (fun K7 hK7 => ?_)
  refine wp_region_lit ?_
  first | refine l_q rfl rfl (q_assignI rfl) ?_ | refine l_q rfl rfl (q_assign rfl) ?_
  refine l_nil ?_
  refine hK7 _ _ ?_
  refine wp_ret ?_
  refine c_ret1 rfl rfl ?_
  exact ⟨_, rfl, rfl, hS4.drop⟩

set_option maxRecDepth 100000 in
theorem Code_some (e : Er) (hg : e.Good) (v : Value) (eb : Nat) (c a : Int) (uv : Value) (w : World) (hl : LaidV w) (hf : FP (Ro w (fun _ => False)) w e v eb) (hr : Ro w (fun _ => False) eb) (hb : w.heap[eb]? = some (fO c a uv)) : Calls Tryd.prog 22 #[v] w (PostR w fun v => v = .int .i64 c) := by
  have hS := St.start w
  refine c_enter Tryd.func22 rfl rfl rfl ?_
  refine wp_seq_k (fun K1 hK1 => ?_)
  refine wp_region_lit ?_
  first | refine l_q rfl rfl (q_assignI rfl) ?_ | refine l_q rfl rfl (q_assign rfl) ?_
  refine l_nil ?_
  refine hK1 _ _ ?_
  refine wp_seq_k (fun K2 hK2 => ?_)
  refine wp_seq_k (fun K3 hK3 => ?_)
  refine wp_region_lit ?_
  refine l_q rfl rfl (q_move rfl) ?_
  refine l_e rfl (fun K hK => ?_)
  refine e_call (by kernel_rfl) (first_some e hg _ eb _ (hl.keep id hS) (hf.next (Γ := []) (F := []) hS |>.mono fun _ h => ⟨⟨h.1, id⟩, rfl⟩)) rfl (after_R hS (fun v4 w4 hv4 hS4 => ?_))
  clear hS; subst hv4
  refine hK _ _ ?_; clear hK K
  first | refine l_q rfl rfl (q_assignP rfl) ?_ | refine l_q rfl rfl (q_assign rfl) ?_
  refine l_nil ?_
  refine hK3 _ _ ?_
  refine wp_seq_k (fun K5 hK5 => ?_)
  refine wp_region_lit ?_
  first | refine l_q rfl rfl (q_moveP rfl) ?_ | refine l_q rfl rfl (q_move rfl) ?_
  refine l_q rfl rfl (q_pne rfl (by kernel_rfl)) ?_
  refine l_nil ?_
  refine hK5 _ _ ?_
  refine c_condT rfl rfl ?_
  refine wp_seq_k (fun K7 hK7 => ?_)
  refine wp_region_lit ?_
  first | refine l_q rfl rfl (q_moveP rfl) ?_ | refine l_q rfl rfl (q_move rfl) ?_
  refine l_q rfl rfl (q_nilCheck rfl) ?_
  refine l_q rfl rfl (q_fieldAddr (ft := 23) (o := 0) rfl (by kernel_rfl)) ?_
  refine l_q rfl rfl (q_load1 rfl (by kernel_rfl) (cell_blk ((hr.same hS4).trans hb) rfl)) ?_
  first | refine l_q rfl rfl (q_assignI rfl) ?_ | refine l_q rfl rfl (q_assign rfl) ?_
  refine l_nil ?_
  refine hK7 _ _ ?_
  refine wp_ret ?_
  refine c_ret1 rfl rfl ?_
  exact ⟨_, rfl, rfl, hS4.drop⟩

set_option maxRecDepth 100000 in
theorem At_nil (w : World) : Calls Tryd.prog 18 #[.nilIface] w (PostR w fun v => v = .int .i64 (-1)) := by
  have hS := St.start w
  refine c_enter Tryd.func18 rfl rfl rfl ?_
  refine wp_seq_k (fun K1 hK1 => ?_)
  refine wp_region_lit ?_
  first | refine l_q rfl rfl (q_assignI rfl) ?_ | refine l_q rfl rfl (q_assign rfl) ?_
  refine l_nil ?_
  refine hK1 _ _ ?_
  refine wp_seq_k (fun K2 hK2 => ?_)
  refine wp_seq_k (fun K3 hK3 => ?_)
  refine wp_region_lit ?_
  refine l_q rfl rfl (q_move rfl) ?_
  refine l_e rfl (fun K hK => ?_)
  refine e_call (by kernel_rfl) (first_nilQ _) rfl (after_R hS (fun v4 w4 hv4 hS4 => ?_))
  clear hS; subst hv4
  refine hK _ _ ?_; clear hK K
  first | refine l_q rfl rfl (q_assignP rfl) ?_ | refine l_q rfl rfl (q_assign rfl) ?_
  refine l_nil ?_
  refine hK3 _ _ ?_
  refine wp_seq_k (fun K5 hK5 => ?_)
  refine wp_region_lit ?_
  first | refine l_q rfl rfl (q_moveP rfl) ?_ | refine l_q rfl rfl (q_move rfl) ?_
  refine l_q rfl rfl (q_pne rfl (by kernel_rfl)) ?_
  refine l_nil ?_
  refine hK5 _ _ ?_
  refine c_condF rfl rfl ?_
  refine wp_skip ?_
  refine hK2 _ _ ?_
  refine wp_seq_k (fun K7 hK7 => ?_)
  refine wp_region_lit ?_
  first | refine l_q rfl rfl (q_assignI rfl) ?_ | refine l_q rfl rfl (q_assign rfl) ?_
  refine l_nil ?_
  refine hK7 _ _ ?_
  refine wp_ret ?_
  refine c_ret1 rfl rfl ?_
  exact ⟨_, rfl, rfl, hS4.drop⟩

set_option maxRecDepth 100000 in
theorem At_some (e : Er) (hg : e.Good) (v : Value) (eb : Nat) (c a : Int) (uv : Value) (w : World) (hl : LaidV w) (hf : FP (Ro w (fun _ => False)) w e v eb) (hr : Ro w (fun _ => False) eb) (hb : w.heap[eb]? = some (fO c a uv)) : Calls Tryd.prog 18 #[v] w (PostR w fun v => v = .int .i64 a) := by
  have hS := St.start w
  refine c_enter Tryd.func18 rfl rfl rfl ?_
  refine wp_seq_k (fun K1 hK1 => ?_)
  refine wp_region_lit ?_
  first | refine l_q rfl rfl (q_assignI rfl) ?_ | refine l_q rfl rfl (q_assign rfl) ?_
  refine l_nil ?_
  refine hK1 _ _ ?_
  refine wp_seq_k (fun K2 hK2 => ?_)
  refine wp_seq_k (fun K3 hK3 => ?_)
  refine wp_region_lit ?_
  refine l_q rfl rfl (q_move rfl) ?_
  refine l_e rfl (fun K hK => ?_)
  refine e_call (by kernel_rfl) (first_some e hg _ eb _ (hl.keep id hS) (hf.next (Γ := []) (F := []) hS |>.mono fun _ h => ⟨⟨h.1, id⟩, rfl⟩)) rfl (after_R hS (fun v4 w4 hv4 hS4 => ?_))
  clear hS; subst hv4
  refine hK _ _ ?_; clear hK K
  first | refine l_q rfl rfl (q_assignP rfl) ?_ | refine l_q rfl rfl (q_assign rfl) ?_
  refine l_nil ?_
  refine hK3 _ _ ?_
  refine wp_seq_k (fun K5 hK5 => ?_)
  refine wp_region_lit ?_
  first | refine l_q rfl rfl (q_moveP rfl) ?_ | refine l_q rfl rfl (q_move rfl) ?_
  refine l_q rfl rfl (q_pne rfl (by kernel_rfl)) ?_
  refine l_nil ?_
  refine hK5 _ _ ?_
  refine c_condT rfl rfl ?_
  refine wp_seq_k (fun K7 hK7 => ?_)
  refine wp_region_lit ?_
  first | refine l_q rfl rfl (q_moveP rfl) ?_ | refine l_q rfl rfl (q_move rfl) ?_
  refine l_q rfl rfl (q_nilCheck rfl) ?_
  refine l_q rfl rfl (q_fieldAddr (ft := 3) (o := 1) rfl (by kernel_rfl)) ?_
  refine l_q rfl rfl (q_load1 rfl (by kernel_rfl) (cell_blk ((hr.same hS4).trans hb) rfl)) ?_
  first | refine l_q rfl rfl (q_assignI rfl) ?_ | refine l_q rfl rfl (q_assign rfl) ?_
  refine l_nil ?_
  refine hK7 _ _ ?_
  refine wp_ret ?_
  refine c_ret1 rfl rfl ?_
  exact ⟨_, rfl, rfl, hS4.drop⟩

end Go.Proofs.YtdlmcgflgdmjgaaDoor
