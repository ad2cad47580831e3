/- law18: CatalogNil. -/
import Derived.Test.YtmemgpcgjephmaaGreatDoorCe
import Derived.Test.YtmemgpcgjephmaaGreatDoorF4
set_option linter.unusedVariables false
set_option linter.unusedSimpArgs false
namespace Go.Proofs.YtmemgpcgjephmaaGreatDoor
open Go.RowKit
theorem good1 {c a : Int} (hc : c ≠ 0) : (Er.flt c a .nil).Good := ⟨hc, trivial⟩
theorem Code1_ok (c a : Int) (b : Nat) (hc : c ≠ 0) (w : World) (hl : LaidV w) (hb : w.heap[b]? = some (fO c a .nilIface)) : Calls Tryz.prog 8 #[fV b] w (PostR w fun v => v = .int .i64 c) :=
  Code_some (Er.flt c a .nil) (good1 hc) (fV b) b c a .nilIface w hl rfl ⟨(Array.getElem?_eq_some_iff.1 hb).1, id⟩ hb
theorem At1_ok (c a : Int) (b : Nat) (hc : c ≠ 0) (w : World) (hl : LaidV w) (hb : w.heap[b]? = some (fO c a .nilIface)) : Calls Tryz.prog 9 #[fV b] w (PostR w fun v => v = .int .i64 a) :=
  At_some (Er.flt c a .nil) (good1 hc) (fV b) b c a .nilIface w hl rfl ⟨(Array.getElem?_eq_some_iff.1 hb).1, id⟩ hb
attribute [local irreducible] Oper.wp Sem.run Code.wp wpList wpAnyO callFunc execOp Calls
attribute [local irreducible] toU enc encR rightB vcmp pB okc hashB hashF overN partN overI RtA RwA PtA partsN

set_option maxRecDepth 100000 in
theorem addnil_ok (t : Tb) (htn : Bytes t.nm) (ca ba : Option Addr) (nc cca nb cba : Nat) (w : World) : Calls Tryz.prog 5 #[.pointer none, .agg #[.string (bs t.nm), .slice ca nc cca, .int .i64 t.key, .int .i64 t.pt, .slice ba nb cba]] w (PostN w fun v G => ∃ b, v = fV b ∧ G = [.blk b (fO 1 (-1) .nilIface)]) := by
  have hS := St.start w
  refine c_enter Tryz.func5 rfl rfl rfl ?_
  refine wp_seq_k (fun K1 hK1 => ?_)
  refine wp_region_lit ?_
  refine l_e rfl (fun K hK => ?_)
  refine e_boxA hS rfl (fun b2 w2 (hS2 : St _ _ [.blk b2 (.cells #[.string (bs t.nm), .slice ca nc cca, .int .i64 t.key, .int .i64 t.pt, .slice ba nb cba] 25)] _) => ?_)
  clear hS
  refine hK _ _ ?_; clear hK K
  refine l_q rfl rfl (q_assign rfl) ?_
  refine l_nil ?_
  refine hK1 _ _ ?_
  refine wp_seq_k (fun K3 hK3 => ?_)
  refine wp_seq_k (fun K4 hK4 => ?_)
  refine wp_region_lit ?_
  refine l_q rfl rfl (q_moveP rfl) ?_
  refine l_q rfl rfl (q_peq rfl (by kernel_rfl)) ?_
  refine l_nil ?_
  refine hK4 _ _ ?_
  refine c_condT rfl rfl ?_
  refine wp_seq_k (fun K6 hK6 => ?_)
  refine wp_region_lit ?_
  refine l_e rfl (fun K hK => ?_)
  refine e_call (by kernel_rfl) (fnew_ok (1 : Int) (-1 : Int) rfl _) rfl (after_N hS2 (fun v7 G7 w7 hv7 hS7 => ?_))
  clear hS2
  obtain ⟨b7, rfl, rfl⟩ := hv7
  have hS8 : St _ _ [.blk b7 (.cells #[.int .i64 (1 : Int), .int .i64 (-1 : Int), _] 69), .blk b2 (.cells #[.string (bs t.nm), .slice ca nc cca, .int .i64 t.key, .int .i64 t.pt, .slice ba nb cba] 25)] _ := hS7; clear hS7
  refine hK _ _ ?_; clear hK K
  refine l_q rfl rfl (q_assign rfl) ?_
  refine l_nil ?_
  refine hK6 _ _ ?_
  refine wp_ret ?_
  refine c_ret1 rfl rfl ?_
  have hS9 : St _ _ [.blk b7 (.cells #[.int .i64 (1 : Int), .int .i64 (-1 : Int), _] 69)] _ := hS8.only 1; clear hS8
  exact ⟨_, _, rfl, ⟨_, rfl, rfl⟩, hS9⟩

set_option maxRecDepth 100000 in
theorem getnil_ok (s : List Nat) (hs : Bytes s) (w : World) : Calls Tryz.prog 6 #[.pointer none, .string (bs s)] w (PostN w fun v G => ∃ b, v = .tuple #[.agg #[.string (bs []), .slice none 0 0, .int .i64 0, .int .i64 0, .slice none 0 0], fV b] ∧ G = [.blk b (fO 1 (-1) .nilIface)]) := by
  have hS := St.start w
  refine c_enter Tryz.func6 rfl rfl rfl ?_
  refine wp_seq_k (fun K1 hK1 => ?_)
  refine wp_region_lit ?_
  refine l_e rfl (fun K hK => ?_)
  refine e_alloc (zv := .agg #[.string ⟨#[]⟩, .slice none 0 0, .int .i64 0, .int .i64 0, .slice none 0 0]) hS (by kernel_rfl) (fun b2 w2 (hS2 : St _ _ [.blk b2 (.cells #[.string (bs []), .slice none 0 0, .int .i64 (0 : Int), .int .i64 (0 : Int), .slice none 0 0] 25)] _) => ?_)
  clear hS
  refine hK _ _ ?_; clear hK K
  refine l_q rfl rfl (q_assign rfl) ?_
  refine l_nil ?_
  refine hK1 _ _ ?_
  refine wp_seq_k (fun K3 hK3 => ?_)
  refine wp_seq_k (fun K4 hK4 => ?_)
  refine wp_region_lit ?_
  refine l_q rfl rfl (q_moveP rfl) ?_
  refine l_q rfl rfl (q_peq rfl (by kernel_rfl)) ?_
  refine l_nil ?_
  refine hK4 _ _ ?_
  refine c_condT rfl rfl ?_
  refine wp_seq_k (fun K6 hK6 => ?_)
  refine wp_region_lit ?_
  refine l_q rfl rfl (q_build (ps := [(0, 1), (1, 1), (2, 1), (3, 1), (4, 1)]) (zv := .agg #[.string ⟨#[]⟩, .slice none 0 0, .int .i64 0, .int .i64 0, .slice none 0 0]) (by kernel_rfl) (by kernel_rfl) rfl (by repeat' (first | exact trivial | refine ⟨fun _ => by first | rfl | assumption | exact one_if (by assumption), ?_⟩ | refine ⟨fun ⟨_, h⟩ => by simp at h, ?_⟩)) rfl) ?_
  refine l_e rfl (fun K hK => ?_)
  refine e_call (by kernel_rfl) (fnew_ok (1 : Int) (-1 : Int) rfl _) rfl (after_N hS2 (fun v7 G7 w7 hv7 hS7 => ?_))
  clear hS2
  obtain ⟨b7, rfl, rfl⟩ := hv7
  have hS8 : St _ _ [.blk b7 (.cells #[.int .i64 (1 : Int), .int .i64 (-1 : Int), _] 69), .blk b2 (.cells #[.string (bs []), .slice none 0 0, .int .i64 (0 : Int), .int .i64 (0 : Int), .slice none 0 0] 25)] _ := hS7; clear hS7
  refine hK _ _ ?_; clear hK K
  refine l_e rfl (fun K hK => ?_)
  refine e_storeA hS8 rfl rfl (by kernel_rfl) (by repeat' (first | exact trivial | refine ⟨by first | rfl | assumption | exact one_if (by assumption), ?_⟩)) (i := 1) rfl rfl (fun w9 (hS9 : St _ _ [.blk b7 (.cells #[.int .i64 (1 : Int), .int .i64 (-1 : Int), _] 69), .blk b2 (.cells #[.string (bs []), .slice none 0 0, .int .i64 (0 : Int), .int .i64 (0 : Int), .slice none 0 0] 25)] _) => ?_)
  clear hS8
  refine hK _ _ ?_; clear hK K
  refine l_q rfl rfl (q_assign rfl) ?_
  refine l_nil ?_
  refine hK6 _ _ ?_
  refine wp_ret ?_
  refine c_retCT (m := 5) rfl (by kernel_rfl) (by kernel_rfl) rfl (hS9.blk (i := 1) rfl) rfl rfl ?_
  have hS10 : St _ _ [.blk b7 (.cells #[.int .i64 (1 : Int), .int .i64 (-1 : Int), _] 69)] _ := hS9.only 1; clear hS9
  exact ⟨_, _, rfl, ⟨_, rfl, rfl⟩, hS10⟩

set_option maxRecDepth 100000 in
theorem namesnil_ok (w : World) : Calls Tryz.prog 10 #[.pointer none] w (PostR w fun v => v = .slice none 0 0) := by
  have hS := St.start w
  refine c_enter Tryz.func10 rfl rfl rfl ?_
  refine wp_seq_k (fun K1 hK1 => ?_)
  refine wp_region_lit ?_
  refine l_q rfl rfl (q_assignS rfl) ?_
  refine l_nil ?_
  refine hK1 _ _ ?_
  refine wp_seq_k (fun K2 hK2 => ?_)
  refine wp_seq_k (fun K3 hK3 => ?_)
  refine wp_region_lit ?_
  refine l_q rfl rfl (q_moveP rfl) ?_
  refine l_q rfl rfl (q_peq rfl (by kernel_rfl)) ?_
  refine l_nil ?_
  refine hK3 _ _ ?_
  refine c_condT rfl rfl ?_
  refine wp_seq_k (fun K5 hK5 => ?_)
  refine wp_region_lit ?_
  refine l_q rfl rfl (q_assignS rfl) ?_
  refine l_nil ?_
  refine hK5 _ _ ?_
  refine wp_ret ?_
  refine c_ret1 rfl rfl ?_
  exact ⟨_, rfl, rfl, hS.drop⟩

set_option maxRecDepth 100000 in
theorem cnil_ok (t : Tb) (htn : Bytes t.nm) (s : List Nat) (hs : Bytes s) (ca ba : Option Addr) (cca cba : Nat) (w : World) (hl : LaidV w) : Calls Tryz.prog 3 #[.agg #[.string (bs t.nm), .slice ca t.cs.length cca, .int .i64 t.key, .int .i64 t.pt, .slice ba t.bd.length cba], .string (bs s)] w (PostR w fun v => v = .bool true) := by
  have hS := St.start w
  refine c_enter Tryz.func3 rfl rfl rfl ?_
  refine wp_seq_k (fun K1 hK1 => ?_)
  refine wp_region_lit ?_
  refine l_e rfl (fun K hK => ?_)
  refine e_boxA hS rfl (fun b2 w2 (hS2 : St _ _ [.blk b2 (.cells #[.string (bs t.nm), .slice ca t.cs.length cca, .int .i64 t.key, .int .i64 t.pt, .slice ba t.bd.length cba] 25)] _) => ?_)
  clear hS
  refine hK _ _ ?_; clear hK K
  refine l_q rfl rfl (q_assignB rfl) ?_
  refine l_nil ?_
  refine hK1 _ _ ?_
  refine wp_seq_k (fun K3 hK3 => ?_)
  refine wp_region_lit ?_
  refine l_q rfl rfl (q_assignP rfl) ?_
  refine l_nil ?_
  refine hK3 _ _ ?_
  refine wp_seq_k (fun K4 hK4 => ?_)
  refine wp_region_lit ?_
  refine l_q rfl rfl (q_moveP rfl) ?_
  refine l_q rfl rfl (q_loadA (m := 5) rfl (by kernel_rfl) (by kernel_rfl) (hS2.blk (i := 0) rfl) rfl rfl) ?_
  refine l_e rfl (fun K hK => ?_)
  refine e_call (by kernel_rfl) (addnil_ok t htn _ _ _ _ _ _ _) rfl (after_N hS2 (fun v5 G5 w5 hv5 hS5 => ?_))
  clear hS2
  obtain ⟨b5, rfl, rfl⟩ := hv5
  have hS6 : St _ _ [.blk b5 (.cells #[.int .i64 (1 : Int), .int .i64 (-1 : Int), _] 69), .blk b2 (.cells #[.string (bs t.nm), .slice ca t.cs.length cca, .int .i64 t.key, .int .i64 t.pt, .slice ba t.bd.length cba] 25)] _ := hS5; clear hS5
  refine hK _ _ ?_; clear hK K
  refine l_q rfl rfl (q_assign rfl) ?_
  refine l_nil ?_
  refine hK4 _ _ ?_
  refine wp_seq_k (fun K7 hK7 => ?_)
  refine wp_region_lit ?_
  refine l_q rfl rfl (q_moveP rfl) ?_
  refine l_q rfl rfl (q_move rfl) ?_
  refine l_e rfl (fun K hK => ?_)
  refine e_call (by kernel_rfl) (getnil_ok s hs _) rfl (after_N hS6 (fun v8 G8 w8 hv8 hS8 => ?_))
  clear hS6
  obtain ⟨b8, rfl, rfl⟩ := hv8
  have hS9 : St _ _ [.blk b8 (.cells #[.int .i64 (1 : Int), .int .i64 (-1 : Int), _] 69), .blk b5 (.cells #[.int .i64 (1 : Int), .int .i64 (-1 : Int), _] 69), .blk b2 (.cells #[.string (bs t.nm), .slice ca t.cs.length cca, .int .i64 t.key, .int .i64 t.pt, .slice ba t.bd.length cba] 25)] _ := hS8; clear hS8
  refine hK _ _ ?_; clear hK K
  refine l_q rfl rfl (q_move rfl) ?_
  refine l_q rfl rfl (q_extract rfl rfl) ?_
  refine l_q rfl rfl (q_extract rfl rfl) ?_
  refine l_e rfl (fun K hK => ?_)
  refine e_alloc (zv := .agg #[.string ⟨#[]⟩, .slice none 0 0, .int .i64 0, .int .i64 0, .slice none 0 0]) hS9 (by kernel_rfl) (fun b10 w10 (hS10 : St _ _ [.blk b10 (.cells #[.string (bs []), .slice none 0 0, .int .i64 (0 : Int), .int .i64 (0 : Int), .slice none 0 0] 25), .blk b8 (.cells #[.int .i64 (1 : Int), .int .i64 (-1 : Int), _] 69), .blk b5 (.cells #[.int .i64 (1 : Int), .int .i64 (-1 : Int), _] 69), .blk b2 (.cells #[.string (bs t.nm), .slice ca t.cs.length cca, .int .i64 t.key, .int .i64 t.pt, .slice ba t.bd.length cba] 25)] _) => ?_)
  clear hS9
  refine hK _ _ ?_; clear hK K
  refine l_e rfl (fun K hK => ?_)
  refine e_storeA hS10 rfl rfl (by kernel_rfl) (by repeat' (first | exact trivial | refine ⟨by first | rfl | assumption | exact one_if (by assumption), ?_⟩)) (i := 0) rfl rfl (fun w11 (hS11 : St _ _ [.blk b10 (.cells #[.string (bs []), .slice none 0 0, .int .i64 (0 : Int), .int .i64 (0 : Int), .slice none 0 0] 25), .blk b8 (.cells #[.int .i64 (1 : Int), .int .i64 (-1 : Int), _] 69), .blk b5 (.cells #[.int .i64 (1 : Int), .int .i64 (-1 : Int), _] 69), .blk b2 (.cells #[.string (bs t.nm), .slice ca t.cs.length cca, .int .i64 t.key, .int .i64 t.pt, .slice ba t.bd.length cba] 25)] _) => ?_)
  clear hS10
  refine hK _ _ ?_; clear hK K
  refine l_q rfl rfl (q_assign rfl) ?_
  refine l_nil ?_
  refine hK7 _ _ ?_
  refine wp_seq_k (fun K12 hK12 => ?_)
  refine wp_region_lit ?_
  refine l_e rfl (fun K hK => ?_)
  refine e_call (by kernel_rfl) (alive18_ok _) rfl (after_R hS11 (fun v13 w13 hv13 hS13 => ?_))
  clear hS11
  obtain rfl := hv13
  refine hK _ _ ?_; clear hK K
  refine l_q rfl rfl (q_moveB rfl) ?_
  refine l_on rfl rfl rfl ?_
  refine l_q rfl rfl (q_move rfl) ?_
  refine l_on rfl rfl rfl ?_
  refine l_e rfl (fun K hK => ?_)
  refine e_call (by kernel_rfl) (Code1_ok (1 : Int) (-1 : Int) b5 (by decide) _ (hl.keep id hS13) (hS13.blk (i := 2) rfl)) rfl (after_R hS13 (fun v14 w14 hv14 hS14 => ?_))
  clear hS13
  obtain rfl := hv14
  refine hK _ _ ?_; clear hK K
  refine l_on rfl rfl rfl ?_
  refine l_q rfl rfl (q_eql rfl rfl) ?_
  refine l_q rfl rfl (q_pickT rfl rfl rfl) ?_
  refine l_q rfl rfl (q_moveB rfl) ?_
  refine l_on rfl rfl (by decide) ?_
  refine l_q rfl rfl (q_move rfl) ?_
  refine l_on rfl rfl (by decide) ?_
  refine l_e rfl (fun K hK => ?_)
  refine e_call (by kernel_rfl) (At1_ok (1 : Int) (-1 : Int) b5 (by decide) _ (hl.keep id hS14) (hS14.blk (i := 2) rfl)) rfl (after_R hS14 (fun v15 w15 hv15 hS15 => ?_))
  clear hS14
  obtain rfl := hv15
  refine hK _ _ ?_; clear hK K
  refine l_on rfl rfl (by decide) ?_
  refine l_q rfl rfl (q_eql rfl rfl) ?_
  refine l_q rfl rfl (q_pickT rfl (by decide) rfl) ?_
  refine l_q rfl rfl (q_moveB rfl) ?_
  refine l_on rfl rfl (by decide) ?_
  refine l_q rfl rfl (q_fieldAddr (ft := 9) (o := 0) rfl (by kernel_rfl)) ?_
  refine l_on rfl rfl (by decide) ?_
  refine l_q rfl rfl (q_load1 rfl (by kernel_rfl) (hS15.cell (i := 0) rfl rfl)) ?_
  refine l_on rfl rfl (by decide) ?_
  refine l_q rfl rfl (q_str_eql (l := []) (m := []) rfl rfl Bytes.nil Bytes.nil) ?_
  refine l_q rfl rfl (q_pickT rfl (by decide) rfl) ?_
  refine l_q rfl rfl (q_moveB rfl) ?_
  refine l_on rfl rfl (decide_eq_true rfl) ?_
  refine l_q rfl rfl (q_move rfl) ?_
  refine l_on rfl rfl (decide_eq_true rfl) ?_
  refine l_e rfl (fun K hK => ?_)
  refine e_call (by kernel_rfl) (Code1_ok (1 : Int) (-1 : Int) b8 (by decide) _ (hl.keep id hS15) (hS15.blk (i := 1) rfl)) rfl (after_R hS15 (fun v17 w17 hv17 hS17 => ?_))
  clear hS15
  obtain rfl := hv17
  refine hK _ _ ?_; clear hK K
  refine l_on rfl rfl (decide_eq_true rfl) ?_
  refine l_q rfl rfl (q_eql rfl rfl) ?_
  refine l_q rfl rfl (q_pickT rfl (decide_eq_true rfl) rfl) ?_
  refine l_q rfl rfl (q_moveB rfl) ?_
  refine l_on rfl rfl (by decide) ?_
  refine l_q rfl rfl (q_moveP rfl) ?_
  refine l_on rfl rfl (by decide) ?_
  refine l_e rfl (fun K hK => ?_)
  refine e_call (by kernel_rfl) (namesnil_ok _) rfl (after_R hS17 (fun v18 w18 hv18 hS18 => ?_))
  clear hS17
  obtain rfl := hv18
  refine hK _ _ ?_; clear hK K
  refine l_on rfl rfl (by decide) ?_
  refine l_q rfl rfl (q_lenSl (e := 9) rfl (by kernel_rfl)) ?_
  refine l_on rfl rfl (by decide) ?_
  refine l_q rfl rfl (q_eql rfl rfl) ?_
  refine l_q rfl rfl (q_pickT rfl (by decide) rfl) ?_
  refine l_q rfl rfl (q_assignB rfl) ?_
  refine l_nil ?_
  refine hK12 _ _ ?_
  refine wp_ret ?_
  refine c_ret1 rfl rfl ?_
  exact ⟨_, rfl, rfl, hS18.drop⟩

end Go.Proofs.YtmemgpcgjephmaaGreatDoor
