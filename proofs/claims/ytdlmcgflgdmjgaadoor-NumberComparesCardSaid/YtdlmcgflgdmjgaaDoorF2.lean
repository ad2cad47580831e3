/- errors.As at what package fault asks for. -/
import Derived.Test.YtdlmcgflgdmjgaaDoorFx
import Derived.Test.YtdlmcgflgdmjgaaDoorF1
set_option linter.unusedVariables false
set_option linter.unusedSimpArgs false
namespace Go.Proofs.YtdlmcgflgdmjgaaDoor
open Go.RowKit
attribute [local irreducible] Oper.wp Sem.run Code.wp wpList wpAnyO callFunc execOp Calls
/-- The library's one variable on the road: the handle of the type 'error'. -/
def LaidV (w : World) : Prop := w.cell? ⟨0, 0, none⟩ = some (rt 29)
theorem LaidV.pos {w : World} (h : LaidV w) : 0 < w.heap.size := by
  unfold LaidV at h
  rcases Nat.eq_zero_or_pos w.heap.size with h0 | h1
  · simp [World.cell?, h0] at h
  · exact h1
theorem nown1 {b k : Nat} {o : Obj} (h : b ≠ k) : ¬ owns [.blk b o] k := by
  rintro ⟨c, hc, hk⟩
  rw [List.mem_singleton] at hc; subst hc; exact h hk.symm
/-- It stays: where it may not be written. -/
theorem LaidV.keep {w0 w : World} {D : Nat → Prop} {Γ : List Ch} (h : LaidV w0) (hD : ¬ D 0) (hS : St w0 D Γ w) : LaidV w :=
  (World.cell?_of_block (w := w0) (a := ⟨0, 0, none⟩) (hS.keep 0 h.pos hD)).trans h

set_option maxRecDepth 100000 in
theorem as_hit_F (e : Nat) (tb vb : Nat) (old : Value) (w : World) (hS : St w (owns [.blk tb (.cells #[old] 85)]) [.blk tb (.cells #[old] 85)] w) (hr : Ro w (owns [.blk tb (.cells #[old] 85)]) vb) (hv : w.heap[vb]? = some (.cells #[.pointer (some ⟨tb, 0, none⟩)] 115)) : Calls Tryd.prog 79 #[fV e, .iface 115 (.pointer (some ⟨tb, 0, none⟩)), rv 115 vb 150, rt 85] w (Post w [.blk tb (.cells #[old] 85)] fun v G => v = .bool true ∧ G = [.blk tb (.cells #[.pointer (some ⟨e, 0, none⟩)] 85)]) := by
  refine c_enter Tryd.func79 rfl rfl rfl ?_
  refine wp_seq_k (fun K1 hK1 => ?_)
  refine wp_region_lit ?_
  refine l_e rfl (fun K hK => ?_)
  first | refine e_boxA hS rfl (fun b2 w2 hS2 => ?_) | refine e_box hS rfl (fun b2 w2 hS2 => ?_)
  clear hS
  refine hK _ _ ?_; clear hK K
  first | refine l_q rfl rfl (q_assignB rfl) ?_ | refine l_q rfl rfl (q_assign rfl) ?_
  refine l_nil ?_
  refine hK1 _ _ ?_
  refine wp_block ?_
  refine c_rounds 1 ?_
  refine c_round ?_
  refine wp_block ?_
  refine wp_seq_k (fun K3 hK3 => ?_)
  refine wp_seq_k (fun K4 hK4 => ?_)
  refine wp_region_lit ?_
  refine l_q rfl rfl (q_move rfl) ?_
  refine l_q rfl rfl (q_ext rfl (TypeOf_F _ _)) ?_
  refine l_q rfl rfl (q_move rfl) ?_
  refine l_q rfl rfl (q_extI rfl (m_AssignableTo _) rfl (Assign_FF _)) ?_
  refine l_nil ?_
  refine hK4 _ _ ?_
  refine c_condT rfl rfl ?_
  refine wp_seq_k (fun K6 hK6 => ?_)
  refine wp_region_lit ?_
  refine l_q rfl rfl (q_loadA (m := 3) rfl (by kernel_rfl) (by kernel_rfl) (by first | exact hS2.blk (i := 0) rfl | exact hS2.blk (i := 1) rfl | exact hS2.blk (i := 2) rfl | exact hS2.blk (i := 3) rfl | exact hS2.blk (i := 4) rfl | exact hS2.blk (i := 5) rfl | exact hS2.blk (i := 6) rfl | exact hS2.blk (i := 7) rfl | assumption) rfl rfl) ?_
  refine l_q rfl rfl (q_ext rfl (VElem_PF _ _ _ (cell_blk ((hr.same hS2).trans hv) rfl))) ?_
  refine l_q rfl rfl (q_move rfl) ?_
  refine l_e rfl (fun K hK => ?_)
  first | refine e_extA (fun b => rv 85 b 150) hS2 rfl (ValueOf_F _ _) (fun b7 w7 hS7 => ?_)
  clear hS2
  refine hK _ _ ?_; clear hK K
  refine l_e rfl (fun K hK => ?_)
  refine e_extS (i := 2) hS7 rfl rfl (Set_F _ _ _ _ _ (hS7.cell (i := 0) rfl rfl) (hS7.cell (i := 2) rfl rfl) (hS7.free (i := 2) rfl)) (fun w8 hS8 => ?_)
  clear hS7
  refine hK _ _ ?_; clear hK K
  refine l_nil ?_
  refine hK6 _ _ ?_
  refine wp_seq_k (fun K9 hK9 => ?_)
  refine wp_region_lit ?_
  first | refine l_q rfl rfl (q_assignB rfl) ?_ | refine l_q rfl rfl (q_assign rfl) ?_
  refine l_nil ?_
  refine hK9 _ _ ?_
  refine wp_ret ?_
  refine c_ret1 rfl rfl ?_
  exact ⟨_, _, rfl, ⟨rfl, rfl⟩, hS8.sub (.cons _ (.cons _ (.refl _)))⟩

set_option maxRecDepth 100000 in
theorem As_hit_F (e : Nat) (tb : Nat) (h0 : tb ≠ 0) (old : Value) (w : World) (hS : St w (owns [.blk tb (.cells #[old] 85)]) [.blk tb (.cells #[old] 85)] w) (hl : LaidV w) : Calls Tryd.prog 62 #[fV e, .iface 115 (.pointer (some ⟨tb, 0, none⟩))] w (Post w [.blk tb (.cells #[old] 85)] fun v G => v = .bool true ∧ G = [.blk tb (.cells #[.pointer (some ⟨e, 0, none⟩)] 85)]) := by
  refine c_enter Tryd.func62 rfl rfl rfl ?_
  refine wp_seq_k (fun K1 hK1 => ?_)
  refine wp_region_lit ?_
  first | refine l_q rfl rfl (q_assignB rfl) ?_ | refine l_q rfl rfl (q_assign rfl) ?_
  refine l_nil ?_
  refine hK1 _ _ ?_
  refine wp_seq_k (fun K2 hK2 => ?_)
  refine wp_seq_k (fun K3 hK3 => ?_)
  refine wp_region_lit ?_
  refine l_q rfl rfl (q_move rfl) ?_
  first | refine l_q rfl rfl (q_ieq0 rfl (by kernel_rfl)) ?_ | refine l_q rfl rfl (q_ieq1 rfl (by kernel_rfl)) ?_ | refine l_q rfl rfl (q_ieq rfl (by assumption) (by kernel_rfl)) ?_
  refine l_nil ?_
  refine hK3 _ _ ?_
  refine c_condF rfl rfl ?_
  refine wp_skip ?_
  refine hK2 _ _ ?_
  refine wp_seq_k (fun K5 hK5 => ?_)
  refine wp_seq_k (fun K6 hK6 => ?_)
  refine wp_region_lit ?_
  refine l_q rfl rfl (q_move rfl) ?_
  first | refine l_q rfl rfl (q_ieq0 rfl (by kernel_rfl)) ?_ | refine l_q rfl rfl (q_ieq1 rfl (by kernel_rfl)) ?_ | refine l_q rfl rfl (q_ieq rfl (by assumption) (by kernel_rfl)) ?_
  refine l_nil ?_
  refine hK6 _ _ ?_
  refine c_condF rfl rfl ?_
  refine wp_skip ?_
  refine hK5 _ _ ?_
  refine wp_seq_k (fun K8 hK8 => ?_)
  refine wp_region_lit ?_
  refine l_q rfl rfl (q_move rfl) ?_
  refine l_e rfl (fun K hK => ?_)
  first | refine e_extA (fun b => rv 115 b 150) hS rfl (ValueOf_PF _ _) (fun b9 w9 hS9 => ?_)
  clear hS
  refine hK _ _ ?_; clear hK K
  refine l_e rfl (fun K hK => ?_)
  refine e_alloc (zv := .agg #[.pointer none, .pointer none, .int .u64 0]) hS9 (by kernel_rfl) (fun b10 w10 hS10 => ?_)
  clear hS9
  refine hK _ _ ?_; clear hK K
  refine l_e rfl (fun K hK => ?_)
  first | refine e_storeA hS10 rfl rfl (by kernel_rfl) (by repeat' (first | exact trivial | refine ⟨by first | rfl | assumption | exact one_if (by assumption), ?_⟩)) (i := 0) rfl rfl (fun w11 hS11 => ?_) | refine e_storeA hS10 rfl rfl (by kernel_rfl) (by repeat' (first | exact trivial | refine ⟨by first | rfl | assumption | exact one_if (by assumption), ?_⟩)) (i := 1) rfl rfl (fun w11 hS11 => ?_) | refine e_storeA hS10 rfl rfl (by kernel_rfl) (by repeat' (first | exact trivial | refine ⟨by first | rfl | assumption | exact one_if (by assumption), ?_⟩)) (i := 2) rfl rfl (fun w11 hS11 => ?_) | refine e_storeA hS10 rfl rfl (by kernel_rfl) (by repeat' (first | exact trivial | refine ⟨by first | rfl | assumption | exact one_if (by assumption), ?_⟩)) (i := 3) rfl rfl (fun w11 hS11 => ?_) | refine e_storeA hS10 rfl rfl (by kernel_rfl) (by repeat' (first | exact trivial | refine ⟨by first | rfl | assumption | exact one_if (by assumption), ?_⟩)) (i := 4) rfl rfl (fun w11 hS11 => ?_) | refine e_storeA hS10 rfl rfl (by kernel_rfl) (by repeat' (first | exact trivial | refine ⟨by first | rfl | assumption | exact one_if (by assumption), ?_⟩)) (i := 5) rfl rfl (fun w11 hS11 => ?_) | refine e_storeA hS10 rfl rfl (by kernel_rfl) (by repeat' (first | exact trivial | refine ⟨by first | rfl | assumption | exact one_if (by assumption), ?_⟩)) (i := 6) rfl rfl (fun w11 hS11 => ?_) | refine e_storeA hS10 rfl rfl (by kernel_rfl) (by repeat' (first | exact trivial | refine ⟨by first | rfl | assumption | exact one_if (by assumption), ?_⟩)) (i := 7) rfl rfl (fun w11 hS11 => ?_)
  clear hS10
  refine hK _ _ ?_; clear hK K
  refine l_nil ?_
  refine hK8 _ _ ?_
  refine wp_seq_k (fun K12 hK12 => ?_)
  refine wp_region_lit ?_
  refine l_q rfl rfl (q_loadA (m := 3) rfl (by kernel_rfl) (by kernel_rfl) (by first | exact hS11.blk (i := 0) rfl | exact hS11.blk (i := 1) rfl | exact hS11.blk (i := 2) rfl | exact hS11.blk (i := 3) rfl | exact hS11.blk (i := 4) rfl | exact hS11.blk (i := 5) rfl | exact hS11.blk (i := 6) rfl | exact hS11.blk (i := 7) rfl | assumption) rfl rfl) ?_
  refine l_q rfl rfl (q_ext rfl (Type_PF _ _)) ?_
  refine l_q rfl rfl (q_assign rfl) ?_
  refine l_nil ?_
  refine hK12 _ _ ?_
  refine wp_seq_k (fun K13 hK13 => ?_)
  refine wp_seq_k (fun K14 hK14 => ?_)
  refine wp_region_lit ?_
  refine l_q rfl rfl (q_move rfl) ?_
  refine l_q rfl rfl (q_extI rfl (m_Kind _) rfl (Kind_PF _)) ?_
  refine l_q rfl rfl (q_neq rfl rfl) ?_
  first | refine l_q rfl rfl (q_moveB rfl) ?_ | refine l_q rfl rfl (q_move rfl) ?_
  refine l_on rfl rfl rfl ?_
  refine l_q rfl rfl (q_loadA (m := 3) rfl (by kernel_rfl) (by kernel_rfl) (by first | exact hS11.blk (i := 0) rfl | exact hS11.blk (i := 1) rfl | exact hS11.blk (i := 2) rfl | exact hS11.blk (i := 3) rfl | exact hS11.blk (i := 4) rfl | exact hS11.blk (i := 5) rfl | exact hS11.blk (i := 6) rfl | exact hS11.blk (i := 7) rfl | assumption) rfl rfl) ?_
  refine l_on rfl rfl rfl ?_
  refine l_q rfl rfl (q_ext rfl (IsNil_PF _ _ _ (hS11.cell (i := 1) rfl rfl))) ?_
  refine l_q rfl rfl (q_pickF rfl rfl rfl) ?_
  refine l_nil ?_
  refine hK14 _ _ ?_
  refine c_condF rfl rfl ?_
  refine wp_skip ?_
  refine hK13 _ _ ?_
  refine wp_seq_k (fun K17 hK17 => ?_)
  refine wp_region_lit ?_
  refine l_q rfl rfl (q_move rfl) ?_
  refine l_q rfl rfl (q_extI rfl (m_Elem _) rfl (TElem_PF _)) ?_
  refine l_q rfl rfl (q_assign rfl) ?_
  refine l_nil ?_
  refine hK17 _ _ ?_
  refine wp_seq_k (fun K18 hK18 => ?_)
  refine wp_seq_k (fun K19 hK19 => ?_)
  refine wp_region_lit ?_
  refine l_q rfl rfl (q_move rfl) ?_
  refine l_q rfl rfl (q_extI rfl (m_Kind _) rfl (Kind_F _)) ?_
  refine l_q rfl rfl (q_neq rfl rfl) ?_
  first | refine l_q rfl rfl (q_moveB rfl) ?_ | refine l_q rfl rfl (q_move rfl) ?_
  refine l_on rfl rfl rfl ?_
  refine l_q rfl rfl (q_move rfl) ?_
  have hL := hl.keep (nown1 h0) hS11
  refine l_on rfl rfl rfl ?_
  refine l_q rfl rfl (q_load1 rfl (by kernel_rfl) (by first | exact hS11.cell (i := 0) rfl rfl | exact hS11.cell (i := 1) rfl rfl | exact hS11.cell (i := 2) rfl rfl | exact hS11.cell (i := 3) rfl rfl | exact hS11.cell (i := 4) rfl rfl | exact hS11.cell (i := 5) rfl rfl | exact hS11.cell (i := 6) rfl rfl | exact hS11.cell (i := 7) rfl rfl | assumption)) ?_
  refine l_on rfl rfl rfl ?_
  refine l_q rfl rfl (q_extI rfl (m_Implements _) rfl (Implements_F _)) ?_
  refine l_on rfl rfl rfl ?_
  refine l_q rfl rfl (q_not rfl) ?_
  refine l_q rfl rfl (q_pickT rfl rfl rfl) ?_
  refine l_nil ?_
  refine hK19 _ _ ?_
  refine c_condF rfl rfl ?_
  refine wp_skip ?_
  refine hK18 _ _ ?_
  refine wp_seq_k (fun K22 hK22 => ?_)
  refine wp_region_lit ?_
  refine l_q rfl rfl (q_move rfl) ?_
  refine l_q rfl rfl (q_move rfl) ?_
  refine l_q rfl rfl (q_loadA (m := 3) rfl (by kernel_rfl) (by kernel_rfl) (by first | exact hS11.blk (i := 0) rfl | exact hS11.blk (i := 1) rfl | exact hS11.blk (i := 2) rfl | exact hS11.blk (i := 3) rfl | exact hS11.blk (i := 4) rfl | exact hS11.blk (i := 5) rfl | exact hS11.blk (i := 6) rfl | exact hS11.blk (i := 7) rfl | assumption) rfl rfl) ?_
  refine l_q rfl rfl (q_move rfl) ?_
  refine l_e rfl (fun K hK => ?_)
  have hP23 := hS11.perm (List.perm_append_comm (l₁ := [_, _]) (l₂ := [_]))
  refine e_call (by kernel_rfl) (as_hit_F _ _ _ _ _ (St.begin (Γ := [_]) hP23) (Ro.ofF (Γ := [_]) hP23 (.tail _ (.head _)) rfl) (hS11.blk (i := 1) rfl)) rfl (after_M (Γ1 := [_]) hP23 (fun v23 G23 w23 hv23 hS23 => ?_))
  clear hS11 hP23; obtain ⟨rfl, rfl⟩ := hv23
  refine hK _ _ ?_; clear hK K
  first | refine l_q rfl rfl (q_assignB rfl) ?_ | refine l_q rfl rfl (q_assign rfl) ?_
  refine l_nil ?_
  refine hK22 _ _ ?_
  refine wp_ret ?_
  refine c_ret1 rfl rfl ?_
  exact ⟨_, _, rfl, ⟨rfl, rfl⟩, hS23.sub (.cons_cons _ (List.nil_sublist _))⟩

set_option maxRecDepth 100000 in
theorem as_hit_J (e : Nat) (tb vb : Nat) (old : Value) (w : World) (hS : St w (owns [.blk tb (.cells #[old] 89)]) [.blk tb (.cells #[old] 89)] w) (hr : Ro w (owns [.blk tb (.cells #[old] 89)]) vb) (hv : w.heap[vb]? = some (.cells #[.pointer (some ⟨tb, 0, none⟩)] 114)) : Calls Tryd.prog 79 #[jV e, .iface 114 (.pointer (some ⟨tb, 0, none⟩)), rv 114 vb 150, rt 89] w (Post w [.blk tb (.cells #[old] 89)] fun v G => v = .bool true ∧ G = [.blk tb (.cells #[.pointer (some ⟨e, 0, none⟩)] 89)]) := by
  refine c_enter Tryd.func79 rfl rfl rfl ?_
  refine wp_seq_k (fun K1 hK1 => ?_)
  refine wp_region_lit ?_
  refine l_e rfl (fun K hK => ?_)
  first | refine e_boxA hS rfl (fun b2 w2 hS2 => ?_) | refine e_box hS rfl (fun b2 w2 hS2 => ?_)
  clear hS
  refine hK _ _ ?_; clear hK K
  first | refine l_q rfl rfl (q_assignB rfl) ?_ | refine l_q rfl rfl (q_assign rfl) ?_
  refine l_nil ?_
  refine hK1 _ _ ?_
  refine wp_block ?_
  refine c_rounds 1 ?_
  refine c_round ?_
  refine wp_block ?_
  refine wp_seq_k (fun K3 hK3 => ?_)
  refine wp_seq_k (fun K4 hK4 => ?_)
  refine wp_region_lit ?_
  refine l_q rfl rfl (q_move rfl) ?_
  refine l_q rfl rfl (q_ext rfl (TypeOf_J _ _)) ?_
  refine l_q rfl rfl (q_move rfl) ?_
  refine l_q rfl rfl (q_extI rfl (m_AssignableTo _) rfl (Assign_JJ _)) ?_
  refine l_nil ?_
  refine hK4 _ _ ?_
  refine c_condT rfl rfl ?_
  refine wp_seq_k (fun K6 hK6 => ?_)
  refine wp_region_lit ?_
  refine l_q rfl rfl (q_loadA (m := 3) rfl (by kernel_rfl) (by kernel_rfl) (by first | exact hS2.blk (i := 0) rfl | exact hS2.blk (i := 1) rfl | exact hS2.blk (i := 2) rfl | exact hS2.blk (i := 3) rfl | exact hS2.blk (i := 4) rfl | exact hS2.blk (i := 5) rfl | exact hS2.blk (i := 6) rfl | exact hS2.blk (i := 7) rfl | assumption) rfl rfl) ?_
  refine l_q rfl rfl (q_ext rfl (VElem_PJ _ _ _ (cell_blk ((hr.same hS2).trans hv) rfl))) ?_
  refine l_q rfl rfl (q_move rfl) ?_
  refine l_e rfl (fun K hK => ?_)
  first | refine e_extA (fun b => rv 89 b 150) hS2 rfl (ValueOf_J _ _) (fun b7 w7 hS7 => ?_)
  clear hS2
  refine hK _ _ ?_; clear hK K
  refine l_e rfl (fun K hK => ?_)
  refine e_extS (i := 2) hS7 rfl rfl (Set_J _ _ _ _ _ (hS7.cell (i := 0) rfl rfl) (hS7.cell (i := 2) rfl rfl) (hS7.free (i := 2) rfl)) (fun w8 hS8 => ?_)
  clear hS7
  refine hK _ _ ?_; clear hK K
  refine l_nil ?_
  refine hK6 _ _ ?_
  refine wp_seq_k (fun K9 hK9 => ?_)
  refine wp_region_lit ?_
  first | refine l_q rfl rfl (q_assignB rfl) ?_ | refine l_q rfl rfl (q_assign rfl) ?_
  refine l_nil ?_
  refine hK9 _ _ ?_
  refine wp_ret ?_
  refine c_ret1 rfl rfl ?_
  exact ⟨_, _, rfl, ⟨rfl, rfl⟩, hS8.sub (.cons _ (.cons _ (.refl _)))⟩

set_option maxRecDepth 100000 in
theorem As_hit_J (e : Nat) (tb : Nat) (h0 : tb ≠ 0) (old : Value) (w : World) (hS : St w (owns [.blk tb (.cells #[old] 89)]) [.blk tb (.cells #[old] 89)] w) (hl : LaidV w) : Calls Tryd.prog 62 #[jV e, .iface 114 (.pointer (some ⟨tb, 0, none⟩))] w (Post w [.blk tb (.cells #[old] 89)] fun v G => v = .bool true ∧ G = [.blk tb (.cells #[.pointer (some ⟨e, 0, none⟩)] 89)]) := by
  refine c_enter Tryd.func62 rfl rfl rfl ?_
  refine wp_seq_k (fun K1 hK1 => ?_)
  refine wp_region_lit ?_
  first | refine l_q rfl rfl (q_assignB rfl) ?_ | refine l_q rfl rfl (q_assign rfl) ?_
  refine l_nil ?_
  refine hK1 _ _ ?_
  refine wp_seq_k (fun K2 hK2 => ?_)
  refine wp_seq_k (fun K3 hK3 => ?_)
  refine wp_region_lit ?_
  refine l_q rfl rfl (q_move rfl) ?_
  first | refine l_q rfl rfl (q_ieq0 rfl (by kernel_rfl)) ?_ | refine l_q rfl rfl (q_ieq1 rfl (by kernel_rfl)) ?_ | refine l_q rfl rfl (q_ieq rfl (by assumption) (by kernel_rfl)) ?_
  refine l_nil ?_
  refine hK3 _ _ ?_
  refine c_condF rfl rfl ?_
  refine wp_skip ?_
  refine hK2 _ _ ?_
  refine wp_seq_k (fun K5 hK5 => ?_)
  refine wp_seq_k (fun K6 hK6 => ?_)
  refine wp_region_lit ?_
  refine l_q rfl rfl (q_move rfl) ?_
  first | refine l_q rfl rfl (q_ieq0 rfl (by kernel_rfl)) ?_ | refine l_q rfl rfl (q_ieq1 rfl (by kernel_rfl)) ?_ | refine l_q rfl rfl (q_ieq rfl (by assumption) (by kernel_rfl)) ?_
  refine l_nil ?_
  refine hK6 _ _ ?_
  refine c_condF rfl rfl ?_
  refine wp_skip ?_
  refine hK5 _ _ ?_
  refine wp_seq_k (fun K8 hK8 => ?_)
  refine wp_region_lit ?_
  refine l_q rfl rfl (q_move rfl) ?_
  refine l_e rfl (fun K hK => ?_)
  first | refine e_extA (fun b => rv 114 b 150) hS rfl (ValueOf_PJ _ _) (fun b9 w9 hS9 => ?_)
  clear hS
  refine hK _ _ ?_; clear hK K
  refine l_e rfl (fun K hK => ?_)
  refine e_alloc (zv := .agg #[.pointer none, .pointer none, .int .u64 0]) hS9 (by kernel_rfl) (fun b10 w10 hS10 => ?_)
  clear hS9
  refine hK _ _ ?_; clear hK K
  refine l_e rfl (fun K hK => ?_)
  first | refine e_storeA hS10 rfl rfl (by kernel_rfl) (by repeat' (first | exact trivial | refine ⟨by first | rfl | assumption | exact one_if (by assumption), ?_⟩)) (i := 0) rfl rfl (fun w11 hS11 => ?_) | refine e_storeA hS10 rfl rfl (by kernel_rfl) (by repeat' (first | exact trivial | refine ⟨by first | rfl | assumption | exact one_if (by assumption), ?_⟩)) (i := 1) rfl rfl (fun w11 hS11 => ?_) | refine e_storeA hS10 rfl rfl (by kernel_rfl) (by repeat' (first | exact trivial | refine ⟨by first | rfl | assumption | exact one_if (by assumption), ?_⟩)) (i := 2) rfl rfl (fun w11 hS11 => ?_) | refine e_storeA hS10 rfl rfl (by kernel_rfl) (by repeat' (first | exact trivial | refine ⟨by first | rfl | assumption | exact one_if (by assumption), ?_⟩)) (i := 3) rfl rfl (fun w11 hS11 => ?_) | refine e_storeA hS10 rfl rfl (by kernel_rfl) (by repeat' (first | exact trivial | refine ⟨by first | rfl | assumption | exact one_if (by assumption), ?_⟩)) (i := 4) rfl rfl (fun w11 hS11 => ?_) | refine e_storeA hS10 rfl rfl (by kernel_rfl) (by repeat' (first | exact trivial | refine ⟨by first | rfl | assumption | exact one_if (by assumption), ?_⟩)) (i := 5) rfl rfl (fun w11 hS11 => ?_) | refine e_storeA hS10 rfl rfl (by kernel_rfl) (by repeat' (first | exact trivial | refine ⟨by first | rfl | assumption | exact one_if (by assumption), ?_⟩)) (i := 6) rfl rfl (fun w11 hS11 => ?_) | refine e_storeA hS10 rfl rfl (by kernel_rfl) (by repeat' (first | exact trivial | refine ⟨by first | rfl | assumption | exact one_if (by assumption), ?_⟩)) (i := 7) rfl rfl (fun w11 hS11 => ?_)
  clear hS10
  refine hK _ _ ?_; clear hK K
  refine l_nil ?_
  refine hK8 _ _ ?_
  refine wp_seq_k (fun K12 hK12 => ?_)
  refine wp_region_lit ?_
  refine l_q rfl rfl (q_loadA (m := 3) rfl (by kernel_rfl) (by kernel_rfl) (by first | exact hS11.blk (i := 0) rfl | exact hS11.blk (i := 1) rfl | exact hS11.blk (i := 2) rfl | exact hS11.blk (i := 3) rfl | exact hS11.blk (i := 4) rfl | exact hS11.blk (i := 5) rfl | exact hS11.blk (i := 6) rfl | exact hS11.blk (i := 7) rfl | assumption) rfl rfl) ?_
  refine l_q rfl rfl (q_ext rfl (Type_PJ _ _)) ?_
  refine l_q rfl rfl (q_assign rfl) ?_
  refine l_nil ?_
  refine hK12 _ _ ?_
  refine wp_seq_k (fun K13 hK13 => ?_)
  refine wp_seq_k (fun K14 hK14 => ?_)
  refine wp_region_lit ?_
  refine l_q rfl rfl (q_move rfl) ?_
  refine l_q rfl rfl (q_extI rfl (m_Kind _) rfl (Kind_PJ _)) ?_
  refine l_q rfl rfl (q_neq rfl rfl) ?_
  first | refine l_q rfl rfl (q_moveB rfl) ?_ | refine l_q rfl rfl (q_move rfl) ?_
  refine l_on rfl rfl rfl ?_
  refine l_q rfl rfl (q_loadA (m := 3) rfl (by kernel_rfl) (by kernel_rfl) (by first | exact hS11.blk (i := 0) rfl | exact hS11.blk (i := 1) rfl | exact hS11.blk (i := 2) rfl | exact hS11.blk (i := 3) rfl | exact hS11.blk (i := 4) rfl | exact hS11.blk (i := 5) rfl | exact hS11.blk (i := 6) rfl | exact hS11.blk (i := 7) rfl | assumption) rfl rfl) ?_
  refine l_on rfl rfl rfl ?_
  refine l_q rfl rfl (q_ext rfl (IsNil_PJ _ _ _ (hS11.cell (i := 1) rfl rfl))) ?_
  refine l_q rfl rfl (q_pickF rfl rfl rfl) ?_
  refine l_nil ?_
  refine hK14 _ _ ?_
  refine c_condF rfl rfl ?_
  refine wp_skip ?_
  refine hK13 _ _ ?_
  refine wp_seq_k (fun K17 hK17 => ?_)
  refine wp_region_lit ?_
  refine l_q rfl rfl (q_move rfl) ?_
  refine l_q rfl rfl (q_extI rfl (m_Elem _) rfl (TElem_PJ _)) ?_
  refine l_q rfl rfl (q_assign rfl) ?_
  refine l_nil ?_
  refine hK17 _ _ ?_
  refine wp_seq_k (fun K18 hK18 => ?_)
  refine wp_seq_k (fun K19 hK19 => ?_)
  refine wp_region_lit ?_
  refine l_q rfl rfl (q_move rfl) ?_
  refine l_q rfl rfl (q_extI rfl (m_Kind _) rfl (Kind_J _)) ?_
  refine l_q rfl rfl (q_neq rfl rfl) ?_
  first | refine l_q rfl rfl (q_moveB rfl) ?_ | refine l_q rfl rfl (q_move rfl) ?_
  refine l_on rfl rfl rfl ?_
  refine l_q rfl rfl (q_move rfl) ?_
  have hL := hl.keep (nown1 h0) hS11
  refine l_on rfl rfl rfl ?_
  refine l_q rfl rfl (q_load1 rfl (by kernel_rfl) (by first | exact hS11.cell (i := 0) rfl rfl | exact hS11.cell (i := 1) rfl rfl | exact hS11.cell (i := 2) rfl rfl | exact hS11.cell (i := 3) rfl rfl | exact hS11.cell (i := 4) rfl rfl | exact hS11.cell (i := 5) rfl rfl | exact hS11.cell (i := 6) rfl rfl | exact hS11.cell (i := 7) rfl rfl | assumption)) ?_
  refine l_on rfl rfl rfl ?_
  refine l_q rfl rfl (q_extI rfl (m_Implements _) rfl (Implements_J _)) ?_
  refine l_on rfl rfl rfl ?_
  refine l_q rfl rfl (q_not rfl) ?_
  refine l_q rfl rfl (q_pickT rfl rfl rfl) ?_
  refine l_nil ?_
  refine hK19 _ _ ?_
  refine c_condF rfl rfl ?_
  refine wp_skip ?_
  refine hK18 _ _ ?_
  refine wp_seq_k (fun K22 hK22 => ?_)
  refine wp_region_lit ?_
  refine l_q rfl rfl (q_move rfl) ?_
  refine l_q rfl rfl (q_move rfl) ?_
  refine l_q rfl rfl (q_loadA (m := 3) rfl (by kernel_rfl) (by kernel_rfl) (by first | exact hS11.blk (i := 0) rfl | exact hS11.blk (i := 1) rfl | exact hS11.blk (i := 2) rfl | exact hS11.blk (i := 3) rfl | exact hS11.blk (i := 4) rfl | exact hS11.blk (i := 5) rfl | exact hS11.blk (i := 6) rfl | exact hS11.blk (i := 7) rfl | assumption) rfl rfl) ?_
  refine l_q rfl rfl (q_move rfl) ?_
  refine l_e rfl (fun K hK => ?_)
  have hP23 := hS11.perm (List.perm_append_comm (l₁ := [_, _]) (l₂ := [_]))
  refine e_call (by kernel_rfl) (as_hit_J _ _ _ _ _ (St.begin (Γ := [_]) hP23) (Ro.ofF (Γ := [_]) hP23 (.tail _ (.head _)) rfl) (hS11.blk (i := 1) rfl)) rfl (after_M (Γ1 := [_]) hP23 (fun v23 G23 w23 hv23 hS23 => ?_))
  clear hS11 hP23; obtain ⟨rfl, rfl⟩ := hv23
  refine hK _ _ ?_; clear hK K
  first | refine l_q rfl rfl (q_assignB rfl) ?_ | refine l_q rfl rfl (q_assign rfl) ?_
  refine l_nil ?_
  refine hK22 _ _ ?_
  refine wp_ret ?_
  refine c_ret1 rfl rfl ?_
  exact ⟨_, _, rfl, ⟨rfl, rfl⟩, hS23.sub (.cons_cons _ (List.nil_sublist _))⟩

set_option maxRecDepth 100000 in
theorem as_hit_M (e : Int) (tb vb : Nat) (old : Value) (w : World) (hS : St w (owns [.blk tb (.cells #[old] 95)]) [.blk tb (.cells #[old] 95)] w) (hr : Ro w (owns [.blk tb (.cells #[old] 95)]) vb) (hv : w.heap[vb]? = some (.cells #[.pointer (some ⟨tb, 0, none⟩)] 178)) : Calls Tryd.prog 79 #[.iface 95 (.agg #[.int .i64 e]), .iface 178 (.pointer (some ⟨tb, 0, none⟩)), rv 178 vb 150, rt 95] w (Post w [.blk tb (.cells #[old] 95)] fun v G => v = .bool true ∧ G = [.blk tb (.cells #[.int .i64 e] 95)]) := by
  refine c_enter Tryd.func79 rfl rfl rfl ?_
  refine wp_seq_k (fun K1 hK1 => ?_)
  refine wp_region_lit ?_
  refine l_e rfl (fun K hK => ?_)
  first | refine e_boxA hS rfl (fun b2 w2 hS2 => ?_) | refine e_box hS rfl (fun b2 w2 hS2 => ?_)
  clear hS
  refine hK _ _ ?_; clear hK K
  first | refine l_q rfl rfl (q_assignB rfl) ?_ | refine l_q rfl rfl (q_assign rfl) ?_
  refine l_nil ?_
  refine hK1 _ _ ?_
  refine wp_block ?_
  refine c_rounds 1 ?_
  refine c_round ?_
  refine wp_block ?_
  refine wp_seq_k (fun K3 hK3 => ?_)
  refine wp_seq_k (fun K4 hK4 => ?_)
  refine wp_region_lit ?_
  refine l_q rfl rfl (q_move rfl) ?_
  refine l_q rfl rfl (q_ext rfl (TypeOf_M _ _)) ?_
  refine l_q rfl rfl (q_move rfl) ?_
  refine l_q rfl rfl (q_extI rfl (m_AssignableTo _) rfl (Assign_MM _)) ?_
  refine l_nil ?_
  refine hK4 _ _ ?_
  refine c_condT rfl rfl ?_
  refine wp_seq_k (fun K6 hK6 => ?_)
  refine wp_region_lit ?_
  refine l_q rfl rfl (q_loadA (m := 3) rfl (by kernel_rfl) (by kernel_rfl) (by first | exact hS2.blk (i := 0) rfl | exact hS2.blk (i := 1) rfl | exact hS2.blk (i := 2) rfl | exact hS2.blk (i := 3) rfl | exact hS2.blk (i := 4) rfl | exact hS2.blk (i := 5) rfl | exact hS2.blk (i := 6) rfl | exact hS2.blk (i := 7) rfl | assumption) rfl rfl) ?_
  refine l_q rfl rfl (q_ext rfl (VElem_PM _ _ _ (cell_blk ((hr.same hS2).trans hv) rfl))) ?_
  refine l_q rfl rfl (q_move rfl) ?_
  refine l_e rfl (fun K hK => ?_)
  first | refine e_extA (fun b => rv 95 b 153) hS2 rfl (ValueOf_M _ _) (fun b7 w7 hS7 => ?_)
  clear hS2
  refine hK _ _ ?_; clear hK K
  refine l_e rfl (fun K hK => ?_)
  refine e_extS (i := 2) hS7 rfl rfl (Set_M _ _ _ _ _ (hS7.cell (i := 0) rfl rfl) (hS7.cell (i := 2) rfl rfl) (hS7.free (i := 2) rfl)) (fun w8 hS8 => ?_)
  clear hS7
  refine hK _ _ ?_; clear hK K
  refine l_nil ?_
  refine hK6 _ _ ?_
  refine wp_seq_k (fun K9 hK9 => ?_)
  refine wp_region_lit ?_
  first | refine l_q rfl rfl (q_assignB rfl) ?_ | refine l_q rfl rfl (q_assign rfl) ?_
  refine l_nil ?_
  refine hK9 _ _ ?_
  refine wp_ret ?_
  refine c_ret1 rfl rfl ?_
  exact ⟨_, _, rfl, ⟨rfl, rfl⟩, hS8.sub (.cons _ (.cons _ (.refl _)))⟩

set_option maxRecDepth 100000 in
theorem As_hit_M (e : Int) (tb : Nat) (h0 : tb ≠ 0) (old : Value) (w : World) (hS : St w (owns [.blk tb (.cells #[old] 95)]) [.blk tb (.cells #[old] 95)] w) (hl : LaidV w) : Calls Tryd.prog 62 #[.iface 95 (.agg #[.int .i64 e]), .iface 178 (.pointer (some ⟨tb, 0, none⟩))] w (Post w [.blk tb (.cells #[old] 95)] fun v G => v = .bool true ∧ G = [.blk tb (.cells #[.int .i64 e] 95)]) := by
  refine c_enter Tryd.func62 rfl rfl rfl ?_
  refine wp_seq_k (fun K1 hK1 => ?_)
  refine wp_region_lit ?_
  first | refine l_q rfl rfl (q_assignB rfl) ?_ | refine l_q rfl rfl (q_assign rfl) ?_
  refine l_nil ?_
  refine hK1 _ _ ?_
  refine wp_seq_k (fun K2 hK2 => ?_)
  refine wp_seq_k (fun K3 hK3 => ?_)
  refine wp_region_lit ?_
  refine l_q rfl rfl (q_move rfl) ?_
  first | refine l_q rfl rfl (q_ieq0 rfl (by kernel_rfl)) ?_ | refine l_q rfl rfl (q_ieq1 rfl (by kernel_rfl)) ?_ | refine l_q rfl rfl (q_ieq rfl (by assumption) (by kernel_rfl)) ?_
  refine l_nil ?_
  refine hK3 _ _ ?_
  refine c_condF rfl rfl ?_
  refine wp_skip ?_
  refine hK2 _ _ ?_
  refine wp_seq_k (fun K5 hK5 => ?_)
  refine wp_seq_k (fun K6 hK6 => ?_)
  refine wp_region_lit ?_
  refine l_q rfl rfl (q_move rfl) ?_
  first | refine l_q rfl rfl (q_ieq0 rfl (by kernel_rfl)) ?_ | refine l_q rfl rfl (q_ieq1 rfl (by kernel_rfl)) ?_ | refine l_q rfl rfl (q_ieq rfl (by assumption) (by kernel_rfl)) ?_
  refine l_nil ?_
  refine hK6 _ _ ?_
  refine c_condF rfl rfl ?_
  refine wp_skip ?_
  refine hK5 _ _ ?_
  refine wp_seq_k (fun K8 hK8 => ?_)
  refine wp_region_lit ?_
  refine l_q rfl rfl (q_move rfl) ?_
  refine l_e rfl (fun K hK => ?_)
  first | refine e_extA (fun b => rv 178 b 150) hS rfl (ValueOf_PM _ _) (fun b9 w9 hS9 => ?_)
  clear hS
  refine hK _ _ ?_; clear hK K
  refine l_e rfl (fun K hK => ?_)
  refine e_alloc (zv := .agg #[.pointer none, .pointer none, .int .u64 0]) hS9 (by kernel_rfl) (fun b10 w10 hS10 => ?_)
  clear hS9
  refine hK _ _ ?_; clear hK K
  refine l_e rfl (fun K hK => ?_)
  first | refine e_storeA hS10 rfl rfl (by kernel_rfl) (by repeat' (first | exact trivial | refine ⟨by first | rfl | assumption | exact one_if (by assumption), ?_⟩)) (i := 0) rfl rfl (fun w11 hS11 => ?_) | refine e_storeA hS10 rfl rfl (by kernel_rfl) (by repeat' (first | exact trivial | refine ⟨by first | rfl | assumption | exact one_if (by assumption), ?_⟩)) (i := 1) rfl rfl (fun w11 hS11 => ?_) | refine e_storeA hS10 rfl rfl (by kernel_rfl) (by repeat' (first | exact trivial | refine ⟨by first | rfl | assumption | exact one_if (by assumption), ?_⟩)) (i := 2) rfl rfl (fun w11 hS11 => ?_) | refine e_storeA hS10 rfl rfl (by kernel_rfl) (by repeat' (first | exact trivial | refine ⟨by first | rfl | assumption | exact one_if (by assumption), ?_⟩)) (i := 3) rfl rfl (fun w11 hS11 => ?_) | refine e_storeA hS10 rfl rfl (by kernel_rfl) (by repeat' (first | exact trivial | refine ⟨by first | rfl | assumption | exact one_if (by assumption), ?_⟩)) (i := 4) rfl rfl (fun w11 hS11 => ?_) | refine e_storeA hS10 rfl rfl (by kernel_rfl) (by repeat' (first | exact trivial | refine ⟨by first | rfl | assumption | exact one_if (by assumption), ?_⟩)) (i := 5) rfl rfl (fun w11 hS11 => ?_) | refine e_storeA hS10 rfl rfl (by kernel_rfl) (by repeat' (first | exact trivial | refine ⟨by first | rfl | assumption | exact one_if (by assumption), ?_⟩)) (i := 6) rfl rfl (fun w11 hS11 => ?_) | refine e_storeA hS10 rfl rfl (by kernel_rfl) (by repeat' (first | exact trivial | refine ⟨by first | rfl | assumption | exact one_if (by assumption), ?_⟩)) (i := 7) rfl rfl (fun w11 hS11 => ?_)
  clear hS10
  refine hK _ _ ?_; clear hK K
  refine l_nil ?_
  refine hK8 _ _ ?_
  refine wp_seq_k (fun K12 hK12 => ?_)
  refine wp_region_lit ?_
  refine l_q rfl rfl (q_loadA (m := 3) rfl (by kernel_rfl) (by kernel_rfl) (by first | exact hS11.blk (i := 0) rfl | exact hS11.blk (i := 1) rfl | exact hS11.blk (i := 2) rfl | exact hS11.blk (i := 3) rfl | exact hS11.blk (i := 4) rfl | exact hS11.blk (i := 5) rfl | exact hS11.blk (i := 6) rfl | exact hS11.blk (i := 7) rfl | assumption) rfl rfl) ?_
  refine l_q rfl rfl (q_ext rfl (Type_PM _ _)) ?_
  refine l_q rfl rfl (q_assign rfl) ?_
  refine l_nil ?_
  refine hK12 _ _ ?_
  refine wp_seq_k (fun K13 hK13 => ?_)
  refine wp_seq_k (fun K14 hK14 => ?_)
  refine wp_region_lit ?_
  refine l_q rfl rfl (q_move rfl) ?_
  refine l_q rfl rfl (q_extI rfl (m_Kind _) rfl (Kind_PM _)) ?_
  refine l_q rfl rfl (q_neq rfl rfl) ?_
  first | refine l_q rfl rfl (q_moveB rfl) ?_ | refine l_q rfl rfl (q_move rfl) ?_
  refine l_on rfl rfl rfl ?_
  refine l_q rfl rfl (q_loadA (m := 3) rfl (by kernel_rfl) (by kernel_rfl) (by first | exact hS11.blk (i := 0) rfl | exact hS11.blk (i := 1) rfl | exact hS11.blk (i := 2) rfl | exact hS11.blk (i := 3) rfl | exact hS11.blk (i := 4) rfl | exact hS11.blk (i := 5) rfl | exact hS11.blk (i := 6) rfl | exact hS11.blk (i := 7) rfl | assumption) rfl rfl) ?_
  refine l_on rfl rfl rfl ?_
  refine l_q rfl rfl (q_ext rfl (IsNil_PM _ _ _ (hS11.cell (i := 1) rfl rfl))) ?_
  refine l_q rfl rfl (q_pickF rfl rfl rfl) ?_
  refine l_nil ?_
  refine hK14 _ _ ?_
  refine c_condF rfl rfl ?_
  refine wp_skip ?_
  refine hK13 _ _ ?_
  refine wp_seq_k (fun K17 hK17 => ?_)
  refine wp_region_lit ?_
  refine l_q rfl rfl (q_move rfl) ?_
  refine l_q rfl rfl (q_extI rfl (m_Elem _) rfl (TElem_PM _)) ?_
  refine l_q rfl rfl (q_assign rfl) ?_
  refine l_nil ?_
  refine hK17 _ _ ?_
  refine wp_seq_k (fun K18 hK18 => ?_)
  refine wp_seq_k (fun K19 hK19 => ?_)
  refine wp_region_lit ?_
  refine l_q rfl rfl (q_move rfl) ?_
  refine l_q rfl rfl (q_extI rfl (m_Kind _) rfl (Kind_M _)) ?_
  refine l_q rfl rfl (q_neq rfl rfl) ?_
  first | refine l_q rfl rfl (q_moveB rfl) ?_ | refine l_q rfl rfl (q_move rfl) ?_
  refine l_on rfl rfl rfl ?_
  refine l_q rfl rfl (q_move rfl) ?_
  have hL := hl.keep (nown1 h0) hS11
  refine l_on rfl rfl rfl ?_
  refine l_q rfl rfl (q_load1 rfl (by kernel_rfl) (by first | exact hS11.cell (i := 0) rfl rfl | exact hS11.cell (i := 1) rfl rfl | exact hS11.cell (i := 2) rfl rfl | exact hS11.cell (i := 3) rfl rfl | exact hS11.cell (i := 4) rfl rfl | exact hS11.cell (i := 5) rfl rfl | exact hS11.cell (i := 6) rfl rfl | exact hS11.cell (i := 7) rfl rfl | assumption)) ?_
  refine l_on rfl rfl rfl ?_
  refine l_q rfl rfl (q_extI rfl (m_Implements _) rfl (Implements_M _)) ?_
  refine l_on rfl rfl rfl ?_
  refine l_q rfl rfl (q_not rfl) ?_
  refine l_q rfl rfl (q_pickT rfl rfl rfl) ?_
  refine l_nil ?_
  refine hK19 _ _ ?_
  refine c_condF rfl rfl ?_
  refine wp_skip ?_
  refine hK18 _ _ ?_
  refine wp_seq_k (fun K22 hK22 => ?_)
  refine wp_region_lit ?_
  refine l_q rfl rfl (q_move rfl) ?_
  refine l_q rfl rfl (q_move rfl) ?_
  refine l_q rfl rfl (q_loadA (m := 3) rfl (by kernel_rfl) (by kernel_rfl) (by first | exact hS11.blk (i := 0) rfl | exact hS11.blk (i := 1) rfl | exact hS11.blk (i := 2) rfl | exact hS11.blk (i := 3) rfl | exact hS11.blk (i := 4) rfl | exact hS11.blk (i := 5) rfl | exact hS11.blk (i := 6) rfl | exact hS11.blk (i := 7) rfl | assumption) rfl rfl) ?_
  refine l_q rfl rfl (q_move rfl) ?_
  refine l_e rfl (fun K hK => ?_)
  have hP23 := hS11.perm (List.perm_append_comm (l₁ := [_, _]) (l₂ := [_]))
  refine e_call (by kernel_rfl) (as_hit_M _ _ _ _ _ (St.begin (Γ := [_]) hP23) (Ro.ofF (Γ := [_]) hP23 (.tail _ (.head _)) rfl) (hS11.blk (i := 1) rfl)) rfl (after_M (Γ1 := [_]) hP23 (fun v23 G23 w23 hv23 hS23 => ?_))
  clear hS11 hP23; obtain ⟨rfl, rfl⟩ := hv23
  refine hK _ _ ?_; clear hK K
  first | refine l_q rfl rfl (q_assignB rfl) ?_ | refine l_q rfl rfl (q_assign rfl) ?_
  refine l_nil ?_
  refine hK22 _ _ ?_
  refine wp_ret ?_
  refine c_ret1 rfl rfl ?_
  exact ⟨_, _, rfl, ⟨rfl, rfl⟩, hS23.sub (.cons_cons _ (List.nil_sublist _))⟩

set_option maxRecDepth 100000 in
theorem As_nil (t : Value) (w : World) : Calls Tryd.prog 62 #[.nilIface, t] w (PostR w fun v => v = .bool false) := by
  have hS := St.start w
  refine c_enter Tryd.func62 rfl rfl rfl ?_
  refine wp_seq_k (fun K1 hK1 => ?_)
  refine wp_region_lit ?_
  first | refine l_q rfl rfl (q_assignB rfl) ?_ | refine l_q rfl rfl (q_assign rfl) ?_
  refine l_nil ?_
  refine hK1 _ _ ?_
  refine wp_seq_k (fun K2 hK2 => ?_)
  refine wp_seq_k (fun K3 hK3 => ?_)
  refine wp_region_lit ?_
  refine l_q rfl rfl (q_move rfl) ?_
  first | refine l_q rfl rfl (q_ieq0 rfl (by kernel_rfl)) ?_ | refine l_q rfl rfl (q_ieq1 rfl (by kernel_rfl)) ?_ | refine l_q rfl rfl (q_ieq rfl (by assumption) (by kernel_rfl)) ?_
  refine l_nil ?_
  refine hK3 _ _ ?_
  refine c_condT rfl rfl ?_
  refine wp_seq_k (fun K5 hK5 => ?_)
  refine wp_region_lit ?_
  first | refine l_q rfl rfl (q_assignB rfl) ?_ | refine l_q rfl rfl (q_assign rfl) ?_
  refine l_nil ?_
  refine hK5 _ _ ?_
  refine wp_ret ?_
  refine c_ret1 rfl rfl ?_
  exact ⟨_, rfl, rfl, hS⟩

end Go.Proofs.YtdlmcgflgdmjgaaDoor
