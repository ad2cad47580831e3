/- law07: its live question; WalNil. -/
import Derived.Test.YtmbbkliekgiolaaVb
set_option linter.unusedVariables false
set_option linter.unusedSimpArgs false
namespace Go.Proofs.Ytmbbkliekgiolaa
open Go.RowKit
theorem scan0 : scan [] 0 = ([], 0) := by decide +kernel
theorem alive_facts : waE [] [104, 105] = 0 ∧ waN [] [104, 105] 0 = 0 ∧ (waL [] [104, 105]).length = 7 ∧ waR [] [] [104, 105] 0 = [(0, [104, 105])] := by decide +kernel
theorem alive_crc : crc 65535 [49, 50, 51, 52, 53, 54, 55, 56, 57] = 10673 := by decide +kernel
theorem alive_rd {rs : List Rc} (h : rs.map Rc.abs = [(0, [104, 105])]) : rdE (rs.map Rc.abs) 0 = 0 ∧ rdB (rs.map Rc.abs) 0 = [104, 105] ∧ cnt 0 rs = 0 := by
  refine ⟨by rw [h]; decide, by rw [h]; decide, ?_⟩
  obtain ⟨r, hr, hn⟩ := List.map_eq_singleton_iff.1 h
  subst hr
  have h1 : r.n = 0 := congrArg Prod.fst hn
  simp [cnt, h1]
attribute [local irreducible] Oper.wp Sem.run Code.wp wpList wpAnyO callFunc execOp Calls
attribute [local irreducible] scan waE waN waL waR crc cnt rdE rdB fr apE apN apL

set_option maxHeartbeats 1000000 in
set_option maxRecDepth 100000 in
theorem alive7_ok (w : World) : Calls Try.prog 25 #[] w (PostR w fun v => v = .bool true) := by
  have hS := St.start w
  refine c_enter Try.func25 rfl rfl rfl ?_
  refine wp_seq_k (fun K1 hK1 => ?_)
  refine wp_region_lit ?_
  refine l_q rfl rfl (q_assignB rfl) ?_
  refine l_nil ?_
  refine hK1 _ _ ?_
  refine wp_seq_k (fun K2 hK2 => ?_)
  have hS3 := hS.fz0; clear hS
  refine wp_region_lit ?_
  refine l_e rfl (fun K hK => ?_)
  refine e_call (by kernel_rfl) (dNew_ok _) rfl (after_N hS3 (fun v4 G4 w4 hv4 hS4 => ?_))
  clear hS3
  obtain ⟨k4, rfl, rfl⟩ := hv4
  have hS5 : St _ _ [dk k4 none 0 [] 0 0, .fz (fun _ => none)] _ := hS4; clear hS4
  refine hK _ _ ?_; clear hK K
  refine l_q rfl rfl (q_assignP rfl) ?_
  refine l_nil ?_
  refine hK2 _ _ ?_
  refine wp_seq_k (fun K6 hK6 => ?_)
  refine wp_region_lit ?_
  refine l_q rfl rfl (q_moveP rfl) ?_
  refine l_e rfl (fun K hK => ?_)
  have hsl7 := scan_le [].length [] 0 (Nat.le_refl _)
  refine e_call (by kernel_rfl) (wOpen_ok _ _ _ _ _ _ _ Bytes.nil (by first | omega | (simp only [List.length_append, List.length_map, List.length_cons, List.length_nil, List.length_take, List.length_drop, List.length_set] <;> omega)) (by first | omega | (simp only [List.length_append, List.length_map, List.length_cons, List.length_nil, List.length_take, List.length_drop, List.length_set] <;> omega)) (by first | omega | (simp only [List.length_append, List.length_map, List.length_cons, List.length_nil, List.length_take, List.length_drop, List.length_set] <;> omega)) _ (St.begin (Γ := [_, _]) hS5)) rfl (after_M (Γ1 := [_, _]) hS5 (fun v7 G7 w7 hv7 hS7 => ?_))
  clear hS5
  obtain ⟨k7, ad7, cp7, rs7, da7, dc7, g7, rfl, rfl, hle7, hrs7, hab7⟩ := hv7
  have hS8 : St _ _ [wk k7 k4 ad7 cp7 rs7, dk k4 da7 dc7 ([].take (scan [] 0).2) 0 ((scan [] 0).2), .fz g7] _ := hS7; clear hS7
  refine hK _ _ ?_; clear hK K
  refine l_q rfl rfl (q_move rfl) ?_
  refine l_q rfl rfl (q_extract rfl rfl) ?_
  refine l_q rfl rfl (q_extract rfl rfl) ?_
  refine l_q rfl rfl (q_assignP rfl) ?_
  have hr0 : rs7.map Rc.abs = [] := by rw [hab7, scan0]
  have hrl : rs7.length = 0 := by have := congrArg List.length hr0; simpa using this
  have hS9 : St _ _ [wk k7 k4 ad7 cp7 rs7, dk k4 da7 dc7 [] 0 0, .fz g7] _ := hS8.cast (by rw [scan0]; rfl); clear hS8
  refine l_q rfl rfl (q_assignI rfl) ?_
  refine l_nil ?_
  refine hK6 _ _ ?_
  refine wp_seq_k (fun K10 hK10 => ?_)
  refine wp_seq_k (fun K11 hK11 => ?_)
  refine wp_region_lit ?_
  refine l_q rfl rfl (q_moveI rfl) ?_
  refine l_q rfl rfl (q_neq rfl rfl) ?_
  refine l_q rfl rfl (q_moveB rfl) ?_
  refine l_on rfl rfl (by decide) ?_
  refine l_q rfl rfl (q_moveP rfl) ?_
  refine l_on rfl rfl (by decide) ?_
  refine l_q rfl rfl (q_peq rfl (by kernel_rfl)) ?_
  refine l_q rfl rfl (q_pickF rfl (by decide) rfl) ?_
  refine l_nil ?_
  refine hK11 _ _ ?_
  refine c_condF rfl rfl ?_
  refine wp_skip ?_
  refine hK10 _ _ ?_
  refine wp_seq_k (fun K13 hK13 => ?_)
  refine wp_region_lit ?_
  refine l_q rfl rfl (q_moveP rfl) ?_
  refine l_e rfl (fun K hK => ?_)
  refine e_buildSlice1 (e := 5) (zv := .int .u8 0) (xs := [_, _]) hS9 (by kernel_rfl) (by kernel_rfl) (by kernel_rfl) rfl rfl rfl rfl (allone (by repeat' (first | exact trivial | refine ⟨by first | rfl | assumption, ?_⟩))) rfl (fun b14 w14 (hS14 : St _ _ [.blk b14 (.cells #[.int .u8 (104 : Int), .int .u8 (105 : Int)] 5), wk k7 k4 ad7 cp7 rs7, dk k4 da7 dc7 [] 0 0, .fz g7] _) => ?_)
  clear hS9
  have hB14 : Bytes [104, 105] := by intro q hq; simp only [List.mem_cons, List.not_mem_nil, or_false] at hq; omega
  have hS14o : St _ _ [.ow 5 1 (some ⟨b14, 0, none⟩) 2 2 (bv [104, 105]), wk k7 k4 ad7 cp7 rs7, dk k4 da7 dc7 [] 0 0, .fz g7] _ := hS14.blkOw' (i := 0) (m := 2) (size := 1) (xs := bv [104, 105]) rfl rfl rfl (by decide); clear hS14
  refine hK _ _ ?_; clear hK K
  refine l_e rfl (fun K hK => ?_)
  refine e_convSS (i := 0) hS14o rfl rfl (by kernel_rfl) (by omega) (fun g15 w15 hsb15 (hS15 : St _ _ [.fz g15, wk k7 k4 ad7 cp7 rs7, dk k4 da7 dc7 [] 0 0, .fz g7] _) => ?_)
  clear hS14o
  refine hK _ _ ?_; clear hK K
  refine l_e rfl (fun K hK => ?_)
  have hS17 := hS15.fr3; clear hS15
  have hS18 := hS17.fr3; clear hS17
  have hS19 := hS18.fr3; clear hS18
  refine e_call (by kernel_rfl) (wAppend_ok _ _ _ _ _ _ _ _ _ _ _ (by first | omega | (simp only [List.length_append, List.length_map, List.length_cons, List.length_nil, List.length_take, List.length_drop, List.length_set] <;> omega)) Bytes.nil (by first | omega | (simp only [List.length_append, List.length_map, List.length_cons, List.length_nil, List.length_take, List.length_drop, List.length_set] <;> omega)) (by first | omega | (simp only [List.length_append, List.length_map, List.length_cons, List.length_nil, List.length_take, List.length_drop, List.length_set] <;> omega)) hrs7 _ [104, 105] hB14 _ _ (by first | omega | (simp only [List.length_append, List.length_map, List.length_cons, List.length_nil, List.length_take, List.length_drop, List.length_set] <;> omega)) hsb15 _ (St.rogF (Γ1 := [_, _, _]) (i := 0) hS19 rfl) (St.begin (Γ := [_, _, _]) hS19)) rfl (after_M (Γ1 := [_, _, _]) hS19 (fun v16 G16 w16 hv16 hS16 => ?_))
  clear hS19
  obtain ⟨ad16, cp16, rs16, da16, dc16, g16, rfl, rfl, hle16, hrs16, hab16⟩ := hv16
  have hS20 : St _ _ [wk k7 k4 ad16 cp16 rs16, dk k4 da16 dc16 (waL [] [104, 105]) 0 0, .fz g16, .fz g15] _ := hS16; clear hS16
  have hL16 := waL_len [] [104, 105]
  refine hK _ _ ?_; clear hK K
  obtain ⟨hE, hN, hLl, hRR⟩ := alive_facts
  rw [hr0, hRR] at hab16
  obtain ⟨hrE, hrB, hcnt⟩ := alive_rd hab16
  have hrl2 : rs16.length = 1 := by have := congrArg List.length hab16; simpa using this
  refine l_q rfl rfl (q_move rfl) ?_
  refine l_q rfl rfl (q_extract rfl rfl) ?_
  refine l_q rfl rfl (q_extract rfl rfl) ?_
  refine l_q rfl rfl (q_assignI rfl) ?_
  refine l_q rfl rfl (q_assignI rfl) ?_
  refine l_nil ?_
  refine hK13 _ _ ?_
  refine wp_seq_k (fun K21 hK21 => ?_)
  refine wp_region_lit ?_
  refine l_q rfl rfl (q_moveP rfl) ?_
  refine l_e rfl (fun K hK => ?_)
  have hS23 := hS20.fr2; clear hS20
  have hS24 := hS23.fr1; clear hS23
  refine e_call (by kernel_rfl) (wRead_ok _ _ _ _ _ _ (by first | omega | (simp only [List.length_append, List.length_map, List.length_cons, List.length_nil, List.length_take, List.length_drop, List.length_set] <;> omega)) hrs16 _ _ (St.begin (Γ := [_, _]) hS24)) rfl (after_M (Γ1 := [_, _]) hS24 (fun v22 G22 w22 hv22 hS22 => ?_))
  clear hS24
  obtain ⟨ad22, cp22, rfl, rfl⟩ := hv22
  have hS25 : St _ _ [.ow 5 1 ad22 ((rdB (List.map Rc.abs rs16) (0 : Int)).length) cp22 (bv (rdB (List.map Rc.abs rs16) (0 : Int))), wk k7 k4 ad16 cp16 rs16, .fz g16, dk k4 da16 dc16 (waL [] [104, 105]) 0 0, .fz g15] _ := hS22; clear hS22
  refine hK _ _ ?_; clear hK K
  refine l_q rfl rfl (q_move rfl) ?_
  refine l_q rfl rfl (q_extract rfl rfl) ?_
  refine l_q rfl rfl (q_extract rfl rfl) ?_
  refine l_q rfl rfl (q_assignS rfl) ?_
  refine l_q rfl rfl (q_assignI rfl) ?_
  refine l_nil ?_
  refine hK21 _ _ ?_
  refine wp_seq_k (fun K26 hK26 => ?_)
  refine wp_region_lit ?_
  refine l_q rfl rfl (q_moveI rfl) ?_
  refine l_q rfl rfl (q_eql rfl rfl) ?_
  refine l_q rfl rfl (q_moveB rfl) ?_
  refine l_on rfl rfl (decide_eq_true (by rw [hE]; rfl)) ?_
  refine l_q rfl rfl (q_moveI rfl) ?_
  refine l_on rfl rfl (decide_eq_true (by rw [hE]; rfl)) ?_
  refine l_q rfl rfl (q_eql rfl rfl) ?_
  refine l_q rfl rfl (q_pickT rfl (decide_eq_true (by rw [hE]; rfl)) rfl) ?_
  refine l_q rfl rfl (q_moveB rfl) ?_
  refine l_on rfl rfl (decide_eq_true (by rw [hrE]; rfl)) ?_
  refine l_q rfl rfl (q_moveI rfl) ?_
  refine l_on rfl rfl (decide_eq_true (by rw [hrE]; rfl)) ?_
  refine l_q rfl rfl (q_eql rfl rfl) ?_
  refine l_q rfl rfl (q_pickT rfl (decide_eq_true (by rw [hrE]; rfl)) rfl) ?_
  refine l_q rfl rfl (q_moveB rfl) ?_
  refine l_on rfl rfl (decide_eq_true (by rw [hN]; rfl)) ?_
  refine l_q rfl rfl (q_moveS rfl) ?_
  refine l_on rfl rfl (decide_eq_true (by rw [hN]; rfl)) ?_
  refine l_q rfl rfl (q_convBS (l := (rdB (List.map Rc.abs rs16) (0 : Int))) rfl (hS25.owG (i := 0) rfl) (by first | omega | (simp only [List.length_append, List.length_map, List.length_cons, List.length_nil, List.length_take, List.length_drop, List.length_set] <;> omega)) (by kernel_rfl) (by kernel_rfl)) ?_
  refine l_on rfl rfl (decide_eq_true (by rw [hN]; rfl)) ?_
  refine l_q rfl rfl (q_str_eql (l := (rdB (List.map Rc.abs rs16) (0 : Int))) (m := [104, 105]) rfl rfl (rdB_bytes hrs16 _) (by decide : Bytes [104, 105])) ?_
  refine l_q rfl rfl (q_pickT rfl (decide_eq_true (by rw [hN]; rfl)) rfl) ?_
  refine l_q rfl rfl (q_moveB rfl) ?_
  refine l_on rfl rfl (decide_eq_true hrB) ?_
  refine l_q rfl rfl (q_moveP rfl) ?_
  refine l_on rfl rfl (decide_eq_true hrB) ?_
  refine l_e rfl (fun K hK => ?_)
  have hS32 := hS25.fr3; clear hS25
  have hS33 := hS32.fr2; clear hS32
  refine e_call (by kernel_rfl) (wSafe_ok _ _ _ _ _ _ _ _ _ _ (by first | omega | (simp only [List.length_append, List.length_map, List.length_cons, List.length_nil, List.length_take, List.length_drop, List.length_set] <;> omega)) (waL_bytes Bytes.nil hB14) (by first | omega | (simp only [List.length_append, List.length_map, List.length_cons, List.length_nil, List.length_take, List.length_drop, List.length_set] <;> omega)) (by first | omega | (simp only [List.length_append, List.length_map, List.length_cons, List.length_nil, List.length_take, List.length_drop, List.length_set] <;> omega)) _ hrs16 _ (St.begin (Γ := [_, _]) hS33)) rfl (after_M (Γ1 := [_, _]) hS33 (fun v31 G31 w31 hv31 hS31 => ?_))
  clear hS33
  obtain ⟨rfl, rfl⟩ := hv31
  have hS34 : St _ _ [wk k7 k4 ad16 cp16 rs16, dk k4 da16 dc16 (waL [] [104, 105]) 0 0, .ow 5 1 ad22 ((rdB (List.map Rc.abs rs16) (0 : Int)).length) cp22 (bv (rdB (List.map Rc.abs rs16) (0 : Int))), .fz g16, .fz g15] _ := hS31; clear hS31
  refine hK _ _ ?_; clear hK K
  refine l_on rfl rfl (decide_eq_true hrB) ?_
  refine l_q rfl rfl (q_eql rfl rfl) ?_
  refine l_q rfl rfl (q_pickT rfl (decide_eq_true hrB) rfl) ?_
  refine l_q rfl rfl (q_moveB rfl) ?_
  refine l_on rfl rfl (decide_eq_true (by rw [hcnt]; rfl)) ?_
  refine l_q rfl rfl (q_moveP rfl) ?_
  refine l_on rfl rfl (decide_eq_true (by rw [hcnt]; rfl)) ?_
  refine l_e rfl (fun K hK => ?_)
  have hS37 := hS34.fr1; clear hS34
  refine e_call (by kernel_rfl) (dEnd_ok _ _ _ _ _ _ (waL_bytes Bytes.nil hB14) (by first | omega | (simp; omega)) (by first | omega | (simp; omega)) _ (St.begin (Γ := [_]) hS37)) rfl (after_M (Γ1 := [_]) hS37 (fun v36 G36 w36 hv36 hS36 => ?_))
  clear hS37
  obtain ⟨rfl, rfl⟩ := hv36
  have hS38 : St _ _ [dk k4 da16 dc16 (waL [] [104, 105]) 0 0, wk k7 k4 ad16 cp16 rs16, .ow 5 1 ad22 ((rdB (List.map Rc.abs rs16) (0 : Int)).length) cp22 (bv (rdB (List.map Rc.abs rs16) (0 : Int))), .fz g16, .fz g15] _ := hS36; clear hS36
  refine hK _ _ ?_; clear hK K
  refine l_on rfl rfl (decide_eq_true (by rw [hcnt]; rfl)) ?_
  refine l_q rfl rfl (q_eql rfl rfl) ?_
  refine l_q rfl rfl (q_pickT rfl (decide_eq_true (by rw [hcnt]; rfl)) rfl) ?_
  refine l_q rfl rfl (q_moveB rfl) ?_
  refine l_on rfl rfl (decide_eq_true (by rw [hLl]; rfl)) ?_
  refine l_e rfl (fun K hK => ?_)
  refine e_buildSlice1 (e := 5) (zv := .int .u8 0) (xs := [_, _, _, _, _, _, _, _, _]) hS38 (by kernel_rfl) (by kernel_rfl) (by kernel_rfl) rfl rfl rfl rfl (allone (by repeat' (first | exact trivial | refine ⟨by first | rfl | assumption, ?_⟩))) rfl (fun b40 w40 (hS40 : St _ _ [.blk b40 (.cells #[.int .u8 (49 : Int), .int .u8 (50 : Int), .int .u8 (51 : Int), .int .u8 (52 : Int), .int .u8 (53 : Int), .int .u8 (54 : Int), .int .u8 (55 : Int), .int .u8 (56 : Int), .int .u8 (57 : Int)] 5), dk k4 da16 dc16 (waL [] [104, 105]) 0 0, wk k7 k4 ad16 cp16 rs16, .ow 5 1 ad22 ((rdB (List.map Rc.abs rs16) (0 : Int)).length) cp22 (bv (rdB (List.map Rc.abs rs16) (0 : Int))), .fz g16, .fz g15] _) => ?_)
  clear hS38
  have hB40 : Bytes [49, 50, 51, 52, 53, 54, 55, 56, 57] := by intro q hq; simp only [List.mem_cons, List.not_mem_nil, or_false] at hq; omega
  have hS40o : St _ _ [.ow 5 1 (some ⟨b40, 0, none⟩) 9 9 (bv [49, 50, 51, 52, 53, 54, 55, 56, 57]), dk k4 da16 dc16 (waL [] [104, 105]) 0 0, wk k7 k4 ad16 cp16 rs16, .ow 5 1 ad22 ((rdB (List.map Rc.abs rs16) (0 : Int)).length) cp22 (bv (rdB (List.map Rc.abs rs16) (0 : Int))), .fz g16, .fz g15] _ := hS40.blkOw' (i := 0) (m := 9) (size := 1) (xs := bv [49, 50, 51, 52, 53, 54, 55, 56, 57]) rfl rfl rfl (by decide); clear hS40
  refine hK _ _ ?_; clear hK K
  refine l_on rfl rfl (decide_eq_true (by rw [hLl]; rfl)) ?_
  refine l_e rfl (fun K hK => ?_)
  refine e_convSS (i := 0) hS40o rfl rfl (by kernel_rfl) (by omega) (fun g41 w41 hsb41 (hS41 : St _ _ [.fz g41, dk k4 da16 dc16 (waL [] [104, 105]) 0 0, wk k7 k4 ad16 cp16 rs16, .ow 5 1 ad22 ((rdB (List.map Rc.abs rs16) (0 : Int)).length) cp22 (bv (rdB (List.map Rc.abs rs16) (0 : Int))), .fz g16, .fz g15] _) => ?_)
  clear hS40o
  refine hK _ _ ?_; clear hK K
  refine l_on rfl rfl (decide_eq_true (by rw [hLl]; rfl)) ?_
  refine l_e rfl (fun K hK => ?_)
  refine e_call (by kernel_rfl) (chk_ok [49, 50, 51, 52, 53, 54, 55, 56, 57] hB40 9 (by first | omega | (simp only [List.length_append, List.length_map, List.length_cons, List.length_nil, List.length_take, List.length_drop, List.length_set] <;> omega)) (by first | omega | (simp only [List.length_append, List.length_map, List.length_cons, List.length_nil, List.length_take, List.length_drop, List.length_set] <;> omega)) _ _ _ (hsb41.mono (hS41.fz (i := 0) rfl))) rfl (after_R hS41 (fun v42 w42 hv42 hS42 => ?_))
  clear hS41
  obtain rfl := hv42
  refine hK _ _ ?_; clear hK K
  refine l_on rfl rfl (decide_eq_true (by rw [hLl]; rfl)) ?_
  refine l_q rfl rfl (q_eql rfl rfl) ?_
  refine l_q rfl rfl (q_pickT rfl (decide_eq_true (by rw [hLl]; rfl)) rfl) ?_
  refine l_q rfl rfl (q_assignB rfl) ?_
  refine l_nil ?_
  refine hK26 _ _ ?_
  refine wp_ret ?_
  refine c_ret1 rfl rfl ?_
  exact ⟨_, rfl, congrArg Value.bool (decide_eq_true (by rw [alive_crc]; rfl)), hS42.drop⟩

set_option maxRecDepth 100000 in
theorem wOpen_nil  (w : World) : Calls Try.prog 30 #[.pointer none] w (PostR w fun v => v = .tuple #[.pointer none, .int .i64 1]) := by
  have hS := St.start w
  refine c_enter Try.func30 rfl rfl rfl ?_
  refine wp_seq_k (fun K1 hK1 => ?_)
  refine wp_region_lit ?_
  refine l_q rfl rfl (q_assignP rfl) ?_
  refine l_q rfl rfl (q_assignI rfl) ?_
  refine l_nil ?_
  refine hK1 _ _ ?_
  refine wp_seq_k (fun K2 hK2 => ?_)
  refine wp_seq_k (fun K3 hK3 => ?_)
  refine wp_region_lit ?_
  refine l_q rfl rfl (q_moveP rfl) ?_
  refine l_q rfl rfl (q_peq rfl (by kernel_rfl)) ?_
  refine l_nil ?_
  refine hK3 _ _ ?_
  refine c_condT rfl rfl ?_
  refine wp_seq_k (fun K5 hK5 => ?_)
  refine wp_region_lit ?_
  refine l_q rfl rfl (q_assignP rfl) ?_
  refine l_q rfl rfl (q_assignI rfl) ?_
  refine l_nil ?_
  refine hK5 _ _ ?_
  refine wp_ret ?_
  refine c_ret2 rfl rfl rfl ?_
  exact ⟨_, rfl, rfl, hS.drop⟩

set_option maxRecDepth 100000 in
theorem wAppend_nil (ad : Option Addr) (m cap : Nat) (w : World) : Calls Try.prog 31 #[.pointer none, .slice ad m cap] w (PostR w fun v => v = .tuple #[.int .i64 0, .int .i64 1]) := by
  have hS := St.start w
  refine c_enter Try.func31 rfl rfl rfl ?_
  refine wp_seq_k (fun K1 hK1 => ?_)
  refine wp_region_lit ?_
  refine l_q rfl rfl (q_assignI rfl) ?_
  refine l_q rfl rfl (q_assignI rfl) ?_
  refine l_nil ?_
  refine hK1 _ _ ?_
  refine wp_seq_k (fun K2 hK2 => ?_)
  refine wp_seq_k (fun K3 hK3 => ?_)
  refine wp_region_lit ?_
  refine l_q rfl rfl (q_moveP rfl) ?_
  refine l_q rfl rfl (q_peq rfl (by kernel_rfl)) ?_
  refine l_q rfl rfl (q_moveB rfl) ?_
  refine l_off rfl rfl rfl rfl ?_
  refine l_off rfl rfl rfl rfl ?_
  refine l_off rfl rfl rfl rfl ?_
  refine l_q rfl rfl (q_pickT rfl rfl rfl) ?_
  refine l_q rfl rfl (q_moveB rfl) ?_
  refine l_off rfl rfl rfl rfl ?_
  refine l_off rfl rfl rfl rfl ?_
  refine l_off rfl rfl rfl rfl ?_
  refine l_q rfl rfl (q_pickT rfl rfl rfl) ?_
  refine l_nil ?_
  refine hK3 _ _ ?_
  refine c_condT rfl rfl ?_
  refine wp_seq_k (fun K5 hK5 => ?_)
  refine wp_region_lit ?_
  refine l_q rfl rfl (q_assignI rfl) ?_
  refine l_q rfl rfl (q_assignI rfl) ?_
  refine l_nil ?_
  refine hK5 _ _ ?_
  refine wp_ret ?_
  refine c_ret2 rfl rfl rfl ?_
  exact ⟨_, rfl, rfl, hS.drop⟩

set_option maxRecDepth 100000 in
theorem wRead_nil (z : Int) (w : World) : Calls Try.prog 37 #[.pointer none, .int .i64 z] w (PostR w fun v => v = .tuple #[.slice none 0 0, .int .i64 1]) := by
  have hS := St.start w
  refine c_enter Try.func37 rfl rfl rfl ?_
  refine wp_seq_k (fun K1 hK1 => ?_)
  refine wp_region_lit ?_
  refine l_q rfl rfl (q_assignS rfl) ?_
  refine l_q rfl rfl (q_assignI rfl) ?_
  refine l_nil ?_
  refine hK1 _ _ ?_
  refine wp_seq_k (fun K2 hK2 => ?_)
  refine wp_seq_k (fun K3 hK3 => ?_)
  refine wp_region_lit ?_
  refine l_q rfl rfl (q_moveP rfl) ?_
  refine l_q rfl rfl (q_peq rfl (by kernel_rfl)) ?_
  refine l_nil ?_
  refine hK3 _ _ ?_
  refine c_condT rfl rfl ?_
  refine wp_seq_k (fun K5 hK5 => ?_)
  refine wp_region_lit ?_
  refine l_q rfl rfl (q_assignS rfl) ?_
  refine l_q rfl rfl (q_assignI rfl) ?_
  refine l_nil ?_
  refine hK5 _ _ ?_
  refine wp_ret ?_
  refine c_ret2 rfl rfl rfl ?_
  exact ⟨_, rfl, rfl, hS.drop⟩

set_option maxRecDepth 100000 in
theorem wSync_nil  (w : World) : Calls Try.prog 45 #[.pointer none] w (PostR w fun v => v = .int .i64 1) := by
  have hS := St.start w
  refine c_enter Try.func45 rfl rfl rfl ?_
  refine wp_seq_k (fun K1 hK1 => ?_)
  refine wp_region_lit ?_
  refine l_q rfl rfl (q_assignI rfl) ?_
  refine l_nil ?_
  refine hK1 _ _ ?_
  refine wp_seq_k (fun K2 hK2 => ?_)
  refine wp_seq_k (fun K3 hK3 => ?_)
  refine wp_region_lit ?_
  refine l_q rfl rfl (q_moveP rfl) ?_
  refine l_q rfl rfl (q_peq rfl (by kernel_rfl)) ?_
  refine l_nil ?_
  refine hK3 _ _ ?_
  refine c_condT rfl rfl ?_
  refine wp_seq_k (fun K5 hK5 => ?_)
  refine wp_region_lit ?_
  refine l_q rfl rfl (q_assignI rfl) ?_
  refine l_nil ?_
  refine hK5 _ _ ?_
  refine wp_ret ?_
  refine c_ret1 rfl rfl ?_
  exact ⟨_, rfl, rfl, hS.drop⟩

set_option maxRecDepth 100000 in
theorem wTrim_nil (z : Int) (w : World) : Calls Try.prog 46 #[.pointer none, .int .i64 z] w (PostR w fun v => v = .int .i64 1) := by
  have hS := St.start w
  refine c_enter Try.func46 rfl rfl rfl ?_
  refine wp_seq_k (fun K1 hK1 => ?_)
  refine wp_region_lit ?_
  refine l_q rfl rfl (q_assignI rfl) ?_
  refine l_nil ?_
  refine hK1 _ _ ?_
  refine wp_seq_k (fun K2 hK2 => ?_)
  refine wp_seq_k (fun K3 hK3 => ?_)
  refine wp_region_lit ?_
  refine l_q rfl rfl (q_moveP rfl) ?_
  refine l_q rfl rfl (q_peq rfl (by kernel_rfl)) ?_
  refine l_nil ?_
  refine hK3 _ _ ?_
  refine c_condT rfl rfl ?_
  refine wp_seq_k (fun K5 hK5 => ?_)
  refine wp_region_lit ?_
  refine l_q rfl rfl (q_assignI rfl) ?_
  refine l_nil ?_
  refine hK5 _ _ ?_
  refine wp_ret ?_
  refine c_ret1 rfl rfl ?_
  exact ⟨_, rfl, rfl, hS.drop⟩

set_option maxRecDepth 100000 in
theorem wNumbers_nil  (w : World) : Calls Try.prog 32 #[.pointer none] w (PostR w fun v => v = .slice none 0 0) := by
  have hS := St.start w
  refine c_enter Try.func32 rfl rfl rfl ?_
  refine wp_seq_k (fun K1 hK1 => ?_)
  refine wp_region_lit ?_
  refine l_q rfl rfl (q_assignS rfl) ?_
  refine l_nil ?_
  refine hK1 _ _ ?_
  refine wp_seq_k (fun K2 hK2 => ?_)
  refine wp_seq_k (fun K3 hK3 => ?_)
  refine wp_region_lit ?_
  refine l_q rfl rfl (q_moveP rfl) ?_
  refine l_q rfl rfl (q_peq rfl (by kernel_rfl)) ?_
  refine l_nil ?_
  refine hK3 _ _ ?_
  refine c_condT rfl rfl ?_
  refine wp_seq_k (fun K5 hK5 => ?_)
  refine wp_region_lit ?_
  refine l_q rfl rfl (q_assignS rfl) ?_
  refine l_nil ?_
  refine hK5 _ _ ?_
  refine wp_ret ?_
  refine c_ret1 rfl rfl ?_
  exact ⟨_, rfl, rfl, hS.drop⟩

set_option maxRecDepth 100000 in
theorem wSafe_nil  (w : World) : Calls Try.prog 36 #[.pointer none] w (PostR w fun v => v = .int .i64 0) := by
  have hS := St.start w
  refine c_enter Try.func36 rfl rfl rfl ?_
  refine wp_seq_k (fun K1 hK1 => ?_)
  refine wp_region_lit ?_
  refine l_q rfl rfl (q_assignI rfl) ?_
  refine l_nil ?_
  refine hK1 _ _ ?_
  refine wp_seq_k (fun K2 hK2 => ?_)
  refine wp_seq_k (fun K3 hK3 => ?_)
  refine wp_region_lit ?_
  refine l_q rfl rfl (q_moveP rfl) ?_
  refine l_q rfl rfl (q_peq rfl (by kernel_rfl)) ?_
  refine l_nil ?_
  refine hK3 _ _ ?_
  refine c_condT rfl rfl ?_
  refine wp_seq_k (fun K5 hK5 => ?_)
  refine wp_region_lit ?_
  refine l_q rfl rfl (q_assignI rfl) ?_
  refine l_nil ?_
  refine hK5 _ _ ?_
  refine wp_ret ?_
  refine c_ret1 rfl rfl ?_
  exact ⟨_, rfl, rfl, hS.drop⟩

set_option maxRecDepth 100000 in
theorem walNil_ok (k i n : Int) (ad : Option Addr) (m cap : Nat) (w : World) : Calls Try.prog 11 #[.agg #[.int .i64 k, .int .i64 i, .int .i64 n, .slice ad m cap]] w (PostR w fun v => v = .bool true) := by
  have hS := St.start w
  refine c_enter Try.func11 rfl rfl rfl ?_
  refine wp_seq_k (fun K1 hK1 => ?_)
  refine wp_region_lit ?_
  refine l_e rfl (fun K hK => ?_)
  refine e_boxA hS rfl (fun b2 w2 (hS2 : St _ _ [.blk b2 (.cells #[.int .i64 k, .int .i64 i, .int .i64 n, .slice ad m cap] 78)] _) => ?_)
  clear hS
  refine hK _ _ ?_; clear hK K
  refine l_q rfl rfl (q_assignB rfl) ?_
  refine l_nil ?_
  refine hK1 _ _ ?_
  refine wp_seq_k (fun K3 hK3 => ?_)
  refine wp_region_lit ?_
  refine l_q rfl rfl (q_assignP rfl) ?_
  refine l_nil ?_
  refine hK3 _ _ ?_
  refine wp_seq_k (fun K4 hK4 => ?_)
  refine wp_region_lit ?_
  refine l_e rfl (fun K hK => ?_)
  refine e_call (by kernel_rfl) (wOpen_nil  _) rfl (after_R hS2 (fun v5 w5 hv5 hS5 => ?_))
  clear hS2
  obtain rfl := hv5
  refine hK _ _ ?_; clear hK K
  refine l_q rfl rfl (q_move rfl) ?_
  refine l_q rfl rfl (q_extract rfl rfl) ?_
  refine l_q rfl rfl (q_extract rfl rfl) ?_
  refine l_q rfl rfl (q_assignP rfl) ?_
  refine l_q rfl rfl (q_assignI rfl) ?_
  refine l_nil ?_
  refine hK4 _ _ ?_
  refine wp_seq_k (fun K6 hK6 => ?_)
  refine wp_region_lit ?_
  refine l_q rfl rfl (q_moveP rfl) ?_
  refine l_q rfl rfl (q_fieldAddr (ft := 23) (o := 3) rfl (by kernel_rfl)) ?_
  refine l_q rfl rfl (q_load1 rfl (by kernel_rfl) (hS5.cell (i := 0) rfl rfl)) ?_
  refine l_e rfl (fun K hK => ?_)
  refine e_call (by kernel_rfl) (wAppend_nil _ _ _ _) rfl (after_R hS5 (fun v7 w7 hv7 hS7 => ?_))
  clear hS5
  obtain rfl := hv7
  refine hK _ _ ?_; clear hK K
  refine l_q rfl rfl (q_move rfl) ?_
  refine l_q rfl rfl (q_extract rfl rfl) ?_
  refine l_q rfl rfl (q_extract rfl rfl) ?_
  refine l_q rfl rfl (q_assignI rfl) ?_
  refine l_q rfl rfl (q_assignI rfl) ?_
  refine l_nil ?_
  refine hK6 _ _ ?_
  refine wp_seq_k (fun K8 hK8 => ?_)
  refine wp_region_lit ?_
  refine l_q rfl rfl (q_moveP rfl) ?_
  refine l_q rfl rfl (q_fieldAddr (ft := 3) (o := 2) rfl (by kernel_rfl)) ?_
  refine l_q rfl rfl (q_load1 rfl (by kernel_rfl) (hS7.cell (i := 0) rfl rfl)) ?_
  refine l_e rfl (fun K hK => ?_)
  refine e_call (by kernel_rfl) (wRead_nil _ _) rfl (after_R hS7 (fun v9 w9 hv9 hS9 => ?_))
  clear hS7
  obtain rfl := hv9
  refine hK _ _ ?_; clear hK K
  refine l_q rfl rfl (q_move rfl) ?_
  refine l_q rfl rfl (q_extract rfl rfl) ?_
  refine l_q rfl rfl (q_extract rfl rfl) ?_
  refine l_q rfl rfl (q_assignS rfl) ?_
  refine l_q rfl rfl (q_assignI rfl) ?_
  refine l_nil ?_
  refine hK8 _ _ ?_
  refine wp_seq_k (fun K10 hK10 => ?_)
  refine wp_region_lit ?_
  refine l_e rfl (fun K hK => ?_)
  refine e_call (by kernel_rfl) (alive7_ok _) rfl (after_R hS9 (fun v11 w11 hv11 hS11 => ?_))
  clear hS9
  obtain rfl := hv11
  refine hK _ _ ?_; clear hK K
  refine l_q rfl rfl (q_moveB rfl) ?_
  refine l_on rfl rfl rfl ?_
  refine l_q rfl rfl (q_moveP rfl) ?_
  refine l_on rfl rfl rfl ?_
  refine l_q rfl rfl (q_peq rfl (by kernel_rfl)) ?_
  refine l_q rfl rfl (q_pickT rfl rfl rfl) ?_
  refine l_q rfl rfl (q_moveB rfl) ?_
  refine l_on rfl rfl rfl ?_
  refine l_q rfl rfl (q_moveI rfl) ?_
  refine l_on rfl rfl rfl ?_
  refine l_q rfl rfl (q_eql rfl rfl) ?_
  refine l_q rfl rfl (q_pickT rfl rfl rfl) ?_
  refine l_q rfl rfl (q_moveB rfl) ?_
  refine l_on rfl rfl (by decide) ?_
  refine l_q rfl rfl (q_moveI rfl) ?_
  refine l_on rfl rfl (by decide) ?_
  refine l_q rfl rfl (q_eql rfl rfl) ?_
  refine l_q rfl rfl (q_pickT rfl (by decide) rfl) ?_
  refine l_q rfl rfl (q_moveB rfl) ?_
  refine l_on rfl rfl (by decide) ?_
  refine l_q rfl rfl (q_moveI rfl) ?_
  refine l_on rfl rfl (by decide) ?_
  refine l_q rfl rfl (q_eql rfl rfl) ?_
  refine l_q rfl rfl (q_pickT rfl (by decide) rfl) ?_
  refine l_q rfl rfl (q_moveB rfl) ?_
  refine l_on rfl rfl (by decide) ?_
  refine l_q rfl rfl (q_moveS rfl) ?_
  refine l_on rfl rfl (by decide) ?_
  refine l_q rfl rfl (q_lenSl (e := 5) rfl (by kernel_rfl)) ?_
  refine l_on rfl rfl (by decide) ?_
  refine l_q rfl rfl (q_eql rfl rfl) ?_
  refine l_q rfl rfl (q_pickT rfl (by decide) rfl) ?_
  refine l_q rfl rfl (q_moveB rfl) ?_
  refine l_on rfl rfl (by decide) ?_
  refine l_q rfl rfl (q_moveI rfl) ?_
  refine l_on rfl rfl (by decide) ?_
  refine l_q rfl rfl (q_eql rfl rfl) ?_
  refine l_q rfl rfl (q_pickT rfl (by decide) rfl) ?_
  refine l_q rfl rfl (q_moveB rfl) ?_
  refine l_on rfl rfl (by decide) ?_
  refine l_q rfl rfl (q_moveP rfl) ?_
  refine l_on rfl rfl (by decide) ?_
  refine l_e rfl (fun K hK => ?_)
  refine e_call (by kernel_rfl) (wSync_nil  _) rfl (after_R hS11 (fun v12 w12 hv12 hS12 => ?_))
  clear hS11
  obtain rfl := hv12
  refine hK _ _ ?_; clear hK K
  refine l_on rfl rfl (by decide) ?_
  refine l_q rfl rfl (q_eql rfl rfl) ?_
  refine l_q rfl rfl (q_pickT rfl (by decide) rfl) ?_
  refine l_q rfl rfl (q_moveB rfl) ?_
  refine l_on rfl rfl (by decide) ?_
  refine l_q rfl rfl (q_moveP rfl) ?_
  refine l_on rfl rfl (by decide) ?_
  refine l_q rfl rfl (q_fieldAddr (ft := 3) (o := 2) rfl (by kernel_rfl)) ?_
  refine l_on rfl rfl (by decide) ?_
  refine l_q rfl rfl (q_load1 rfl (by kernel_rfl) (hS12.cell (i := 0) rfl rfl)) ?_
  refine l_on rfl rfl (by decide) ?_
  refine l_e rfl (fun K hK => ?_)
  refine e_call (by kernel_rfl) (wTrim_nil _ _) rfl (after_R hS12 (fun v13 w13 hv13 hS13 => ?_))
  clear hS12
  obtain rfl := hv13
  refine hK _ _ ?_; clear hK K
  refine l_on rfl rfl (by decide) ?_
  refine l_q rfl rfl (q_eql rfl rfl) ?_
  refine l_q rfl rfl (q_pickT rfl (by decide) rfl) ?_
  refine l_q rfl rfl (q_moveB rfl) ?_
  refine l_on rfl rfl (by decide) ?_
  refine l_q rfl rfl (q_moveP rfl) ?_
  refine l_on rfl rfl (by decide) ?_
  refine l_e rfl (fun K hK => ?_)
  refine e_call (by kernel_rfl) (wNumbers_nil  _) rfl (after_R hS13 (fun v14 w14 hv14 hS14 => ?_))
  clear hS13
  obtain rfl := hv14
  refine hK _ _ ?_; clear hK K
  refine l_on rfl rfl (by decide) ?_
  refine l_q rfl rfl (q_lenSl (e := 3) rfl (by kernel_rfl)) ?_
  refine l_on rfl rfl (by decide) ?_
  refine l_q rfl rfl (q_eql rfl rfl) ?_
  refine l_q rfl rfl (q_pickT rfl (by decide) rfl) ?_
  refine l_q rfl rfl (q_moveB rfl) ?_
  refine l_on rfl rfl (by decide) ?_
  refine l_q rfl rfl (q_moveP rfl) ?_
  refine l_on rfl rfl (by decide) ?_
  refine l_e rfl (fun K hK => ?_)
  refine e_call (by kernel_rfl) (wSafe_nil  _) rfl (after_R hS14 (fun v15 w15 hv15 hS15 => ?_))
  clear hS14
  obtain rfl := hv15
  refine hK _ _ ?_; clear hK K
  refine l_on rfl rfl (by decide) ?_
  refine l_q rfl rfl (q_eql rfl rfl) ?_
  refine l_q rfl rfl (q_pickT rfl (by decide) rfl) ?_
  refine l_q rfl rfl (q_assignB rfl) ?_
  refine l_nil ?_
  refine hK10 _ _ ?_
  refine wp_ret ?_
  refine c_ret1 rfl rfl ?_
  exact ⟨_, rfl, rfl, hS15.drop⟩

theorem xor_zero {x y : Nat} (h : x ^^^ y = x) : y = 0 := by
  have := congrArg (x ^^^ ·) h
  simpa [← Nat.xor_assoc] using this
attribute [local irreducible] pickN
set_option maxHeartbeats 1000000 in
set_option maxRecDepth 100000 in
theorem walChecks_ok (l : List Nat) (hl : Bytes l) (ad : Option Addr) (cap : Nat) (a : Int) (ha : -9223372036854775808 ≤ a) (y : Nat) (hy : y < 256) (w : World) (hG : SlG (hw w) ad (bv l)) : Calls Try.prog 6 #[.slice ad l.length cap, .int .i64 a, .int .u8 ((y : Nat) : Int)] w (PostR w fun v => v = .bool true) := by
  have hS := St.start w
  refine c_enter Try.func6 rfl rfl rfl ?_
  refine wp_seq_k (fun K1 hK1 => ?_)
  refine wp_region_lit ?_
  refine l_q rfl rfl (q_assignB rfl) ?_
  refine l_nil ?_
  refine hK1 _ _ ?_
  refine wp_seq_k (fun K2 hK2 => ?_)
  refine wp_seq_k (fun K3 hK3 => ?_)
  refine wp_region_lit ?_
  refine l_q rfl rfl (q_moveS rfl) ?_
  refine l_q rfl rfl (q_lenSl (e := 5) rfl (by kernel_rfl)) ?_
  refine l_q rfl rfl (q_gtr rfl rfl) ?_
  refine l_nil ?_
  refine hK3 _ _ ?_
  refine c_cond rfl (fun hc4 => ?_) (fun hc4 => ?_)
  ·
    have hc4b := hc4
    try simp only [decide_eq_true_eq, decide_eq_false_iff_not, Bool.not_eq_true', Bool.not_eq_false', Bool.and_eq_true, Bool.or_eq_true, Int.not_lt, Int.not_le, ne_eq, Decidable.not_not] at hc4
    refine wp_seq_k (fun K5 hK5 => ?_)
    refine wp_region_lit ?_
    refine l_e rfl (fun K hK => ?_)
    refine e_call (by kernel_rfl) (alive7_ok _) rfl (after_R hS (fun v6 w6 hv6 hS6 => ?_))
    clear hS
    obtain rfl := hv6
    refine hK _ _ ?_; clear hK K
    refine l_q rfl rfl (q_assignB rfl) ?_
    refine l_nil ?_
    refine hK5 _ _ ?_
    refine wp_ret ?_
    refine c_ret1 rfl rfl ?_
    exact ⟨_, rfl, rfl, hS6.drop⟩
  ·
    have hc4b := hc4
    try simp only [decide_eq_true_eq, decide_eq_false_iff_not, Bool.not_eq_true', Bool.not_eq_false', Bool.and_eq_true, Bool.or_eq_true, Int.not_lt, Int.not_le, ne_eq, Decidable.not_not] at hc4
    refine wp_skip ?_
    refine hK2 _ _ ?_
    refine wp_seq_k (fun K7 hK7 => ?_)
    refine wp_region_lit ?_
    refine l_q rfl rfl (q_moveS rfl) ?_
    refine l_e rfl (fun K hK => ?_)
    refine e_call (by kernel_rfl) (chk_ok l hl l.length (by first | omega | (simp only [List.length_append, List.length_map, List.length_cons, List.length_nil, List.length_take, List.length_drop, List.length_set] <;> omega)) (by first | omega | (simp only [List.length_append, List.length_map, List.length_cons, List.length_nil, List.length_take, List.length_drop, List.length_set] <;> omega)) _ _ _ (hG.mono hS.base)) rfl (after_R hS (fun v8 w8 hv8 hS8 => ?_))
    clear hS
    obtain rfl := hv8
    refine hK _ _ ?_; clear hK K
    refine l_q rfl rfl (q_assignI rfl) ?_
    refine l_nil ?_
    refine hK7 _ _ ?_
    refine wp_seq_k (fun K9 hK9 => ?_)
    refine wp_seq_k (fun K10 hK10 => ?_)
    refine wp_region_lit ?_
    refine l_q rfl rfl (q_moveI rfl) ?_
    refine l_q rfl rfl (q_moveS rfl) ?_
    refine l_e rfl (fun K hK => ?_)
    refine e_call (by kernel_rfl) (rchk_ok l hl l.length (by first | omega | (simp only [List.length_append, List.length_map, List.length_cons, List.length_nil, List.length_take, List.length_drop, List.length_set] <;> omega)) (by first | omega | (simp only [List.length_append, List.length_map, List.length_cons, List.length_nil, List.length_take, List.length_drop, List.length_set] <;> omega)) _ _ _ (hG.mono hS8.base)) rfl (after_R hS8 (fun v11 w11 hv11 hS11 => ?_))
    clear hS8
    obtain rfl := hv11
    refine hK _ _ ?_; clear hK K
    refine l_q rfl rfl (q_neq rfl rfl) ?_
    refine l_nil ?_
    refine hK10 _ _ ?_
    refine c_condF rfl (by simp) ?_
    refine wp_skip ?_
    refine hK9 _ _ ?_
    refine wp_seq_k (fun K13 hK13 => ?_)
    refine wp_seq_k (fun K14 hK14 => ?_)
    refine wp_region_lit ?_
    refine l_q rfl rfl (q_moveS rfl) ?_
    refine l_q rfl rfl (q_lenSl (e := 5) rfl (by kernel_rfl)) ?_
    refine l_q rfl rfl (q_eql rfl rfl) ?_
    refine l_q rfl rfl (q_moveB rfl) ?_
    refine g_splitL (t := 23) rfl (fun hg15 => ?_) (fun hg15 => ?_)
    ·
      have hg15b := hg15
      try simp only [decide_eq_true_eq, decide_eq_false_iff_not, Bool.not_eq_true', Bool.not_eq_false', Bool.and_eq_true, Bool.or_eq_true, Int.not_lt, Int.not_le, ne_eq, Decidable.not_not] at hg15
      refine l_off rfl rfl rfl hg15b ?_
      refine l_off rfl rfl rfl hg15b ?_
      refine l_q rfl rfl (q_pickT rfl hg15b rfl) ?_
      refine l_nil ?_
      refine hK14 _ _ ?_
      refine c_condT rfl rfl ?_
      refine wp_seq_k (fun K17 hK17 => ?_)
      refine wp_region_lit ?_
      refine l_e rfl (fun K hK => ?_)
      refine e_call (by kernel_rfl) (alive7_ok _) rfl (after_R hS11 (fun v18 w18 hv18 hS18 => ?_))
      clear hS11
      obtain rfl := hv18
      refine hK _ _ ?_; clear hK K
      refine l_q rfl rfl (q_assignB rfl) ?_
      refine l_nil ?_
      refine hK17 _ _ ?_
      refine wp_ret ?_
      refine c_ret1 rfl rfl ?_
      exact ⟨_, rfl, rfl, hS18.drop⟩
    ·
      have hg15b := hg15
      try simp only [decide_eq_true_eq, decide_eq_false_iff_not, Bool.not_eq_true', Bool.not_eq_false', Bool.and_eq_true, Bool.or_eq_true, Int.not_lt, Int.not_le, ne_eq, Decidable.not_not] at hg15
      have hn0 := hg15
      refine l_on rfl rfl hg15b ?_
      refine l_q rfl rfl (q_moveI rfl) ?_
      refine l_on rfl rfl hg15b ?_
      refine l_q rfl rfl (q_eql rfl rfl) ?_
      refine l_q rfl rfl (q_pickF rfl hg15b rfl) ?_
      refine l_nil ?_
      refine hK14 _ _ ?_
      refine c_cond rfl (fun hc19 => ?_) (fun hc19 => ?_)
      ·
        have hc19b := hc19
        try simp only [decide_eq_true_eq, decide_eq_false_iff_not, Bool.not_eq_true', Bool.not_eq_false', Bool.and_eq_true, Bool.or_eq_true, Int.not_lt, Int.not_le, ne_eq, Decidable.not_not] at hc19
        refine wp_seq_k (fun K20 hK20 => ?_)
        refine wp_region_lit ?_
        refine l_e rfl (fun K hK => ?_)
        refine e_call (by kernel_rfl) (alive7_ok _) rfl (after_R hS11 (fun v21 w21 hv21 hS21 => ?_))
        clear hS11
        obtain rfl := hv21
        refine hK _ _ ?_; clear hK K
        refine l_q rfl rfl (q_assignB rfl) ?_
        refine l_nil ?_
        refine hK20 _ _ ?_
        refine wp_ret ?_
        refine c_ret1 rfl rfl ?_
        exact ⟨_, rfl, rfl, hS21.drop⟩
      ·
        have hc19b := hc19
        try simp only [decide_eq_true_eq, decide_eq_false_iff_not, Bool.not_eq_true', Bool.not_eq_false', Bool.and_eq_true, Bool.or_eq_true, Int.not_lt, Int.not_le, ne_eq, Decidable.not_not] at hc19
        have hy0 : y ≠ 0 := by omega
        refine wp_skip ?_
        refine hK13 _ _ ?_
        refine wp_seq_k (fun K22 hK22 => ?_)
        refine wp_region_lit ?_
        refine l_e rfl (fun K hK => ?_)
        refine e_buildSlice1 (e := 5) (zv := .int .u8 0) (xs := []) hS11 (by kernel_rfl) (by kernel_rfl) (by kernel_rfl) rfl rfl rfl rfl ((by intro u hu; cases hu)) rfl (fun b23 w23 (hS23 : St _ _ [.blk b23 (.cells #[] 5)] _) => ?_)
        clear hS11
        have hS23o : St _ _ [.ow 5 1 (some ⟨b23, 0, none⟩) 0 0 (bv [])] _ := hS23.blkOw' (i := 0) (m := 0) (size := 1) (xs := bv []) rfl rfl rfl (by decide); clear hS23
        refine hK _ _ ?_; clear hK K
        refine l_q rfl rfl (q_moveS rfl) ?_
        refine l_e rfl (fun K hK => ?_)
        refine e_app (e := 5) (size := 1) (bytes := 1) (i := 0) (m' := l.length) (by kernel_rfl) hS23o rfl rfl rfl (SlG.src (e := 5) (by kernel_rfl) (hG.mono hS23o.base) (by first | (simp only [List.length_append, List.length_map, List.length_cons, List.length_nil, List.length_take, List.length_drop, List.length_set, Nat.mul_one]; done) | (simp only [List.length_append, List.length_map, List.length_cons, List.length_nil, List.length_take, List.length_drop, List.length_set]; omega) | rfl | (simp; done)) (by decide) (bv_one _)) (by first | omega | (simp only [List.length_append, List.length_map, List.length_cons, List.length_nil, List.length_take, List.length_drop, List.length_set] <;> omega) | (simp; done)) rfl (by first | omega | (simp only [maxLen, List.length_append, List.length_map, List.length_cons, List.length_nil, List.length_take, List.length_drop, List.length_set] <;> omega) | (simp only [maxLen]; omega)) (by first | omega | (simp only [List.length_append, List.length_map, List.length_cons, List.length_nil, List.length_take, List.length_drop, List.length_set] <;> omega)) (fun ad24 cp24 w24 (hS24 : St _ _ [.ow 5 1 ad24 l.length cp24 (bv l)] _) => ?_)
        clear hS23o
        refine hK _ _ ?_; clear hK K
        refine l_q rfl rfl (q_assignS rfl) ?_
        refine l_nil ?_
        refine hK22 _ _ ?_
        refine wp_seq_k (fun K25 hK25 => ?_)
        refine wp_region_lit ?_
        refine l_q rfl rfl (q_moveI rfl) ?_
        refine l_q rfl rfl (q_moveS rfl) ?_
        refine l_q rfl rfl (q_lenSl (e := 5) rfl (by kernel_rfl)) ?_
        refine l_e rfl (fun K hK => ?_)
        refine e_call (by kernel_rfl) (pickR_ok a l.length (by omega) (by omega) _) rfl (after_R hS24 (fun v26 w26 hv26 hS26 => ?_))
        clear hS24
        obtain rfl := hv26
        refine hK _ _ ?_; clear hK K
        have hpk := pickN_lt a (n := l.length) (by omega)
        have hpl : pickN a l.length < l.length := hpk
        refine l_q rfl rfl (q_assignI rfl) ?_
        refine l_nil ?_
        refine hK25 _ _ ?_
        refine wp_seq_k (fun K27 hK27 => ?_)
        refine wp_region_lit ?_
        refine l_q rfl rfl (q_moveS rfl) ?_
        refine l_q rfl rfl (q_moveI rfl) ?_
        refine l_q rfl rfl (q_moveS rfl) ?_
        refine l_q rfl rfl (q_moveI rfl) ?_
        refine l_q rfl rfl (q_ixG (e := 5) (m := 1) (j := (pickN a l.length)) rfl rfl (by kernel_rfl) (by kernel_rfl) (by first | rfl | omega) (by omega) (hS26.owG (i := 0) rfl) (by rw [bv_len]; first | omega | (simp only [List.length_append, List.length_map, List.length_cons, List.length_nil, List.length_take, List.length_drop, List.length_set] <;> omega))) ?_
        obtain ⟨x28, hx28⟩ : ∃ x, (l)[(pickN a l.length)]? = some x := ⟨_, List.getElem?_eq_getElem (by first | omega | (simp only [List.length_append, List.length_map, List.length_cons, List.length_nil, List.length_take, List.length_drop, List.length_set] <;> omega) | (simp <;> omega))⟩
        have hb28 : x28 < 256 := hl x28 (List.mem_of_getElem? hx28)
        refine l_q rfl rfl (q_load1 rfl (by kernel_rfl) (SlG.cell (hS26.owG (i := 0) rfl) (Gle.refl _) (at1 (bv_at hx28)))) ?_
        refine l_q rfl rfl (q_moveI rfl) ?_
        refine l_q rfl rfl (q_xorN (a := x28) (b := y) 8 rfl rfl (by omega) (by omega) (.inl ⟨rfl, rfl⟩)) ?_
        refine l_q rfl rfl (q_ixG (e := 5) (m := 1) (j := (pickN a l.length)) rfl rfl (by kernel_rfl) (by kernel_rfl) (by first | rfl | omega) (by omega) (hS26.owG (i := 0) rfl) (by rw [bv_len]; first | omega | (simp only [List.length_append, List.length_map, List.length_cons, List.length_nil, List.length_take, List.length_drop, List.length_set] <;> omega))) ?_
        refine l_e rfl (fun K hK => ?_)
        refine e_stOw hS26 rfl rfl (by kernel_rfl) (by first | rfl | assumption) (i := 0) rfl (by omega) bv_set1 (fun w29 (hS29 : St _ _ [.ow 5 1 ad24 l.length cp24 (bv (l.set (pickN a l.length) (x28 ^^^ y)))] _) => ?_)
        clear hS26
        have hB29 : Bytes (l.set (pickN a l.length) (x28 ^^^ y)) := Bytes.set hl (by first | omega | exact Nat.xor_lt_two_pow (n := 8) (by omega) (by omega))
        refine hK _ _ ?_; clear hK K
        refine l_nil ?_
        refine hK27 _ _ ?_
        refine wp_seq_k (fun K30 hK30 => ?_)
        refine wp_region_lit ?_
        refine l_e rfl (fun K hK => ?_)
        refine e_call (by kernel_rfl) (alive7_ok _) rfl (after_R hS29 (fun v31 w31 hv31 hS31 => ?_))
        clear hS29
        obtain rfl := hv31
        refine hK _ _ ?_; clear hK K
        refine l_q rfl rfl (q_moveB rfl) ?_
        refine l_on rfl rfl rfl ?_
        refine l_q rfl rfl (q_moveS rfl) ?_
        refine l_on rfl rfl rfl ?_
        refine l_e rfl (fun K hK => ?_)
        refine e_call (by kernel_rfl) (chk_ok (l.set (pickN a l.length) (x28 ^^^ y)) hB29 l.length (by first | omega | (simp only [List.length_append, List.length_map, List.length_cons, List.length_nil, List.length_take, List.length_drop, List.length_set] <;> omega)) (by first | omega | (simp only [List.length_append, List.length_map, List.length_cons, List.length_nil, List.length_take, List.length_drop, List.length_set] <;> omega)) _ _ _ (hS31.owG (i := 0) rfl)) rfl (after_R hS31 (fun v32 w32 hv32 hS32 => ?_))
        clear hS31
        obtain rfl := hv32
        refine hK _ _ ?_; clear hK K
        refine l_on rfl rfl rfl ?_
        refine l_q rfl rfl (q_moveI rfl) ?_
        refine l_on rfl rfl rfl ?_
        refine l_q rfl rfl (q_neq rfl rfl) ?_
        refine l_q rfl rfl (q_pickT rfl rfl rfl) ?_
        refine l_q rfl rfl (q_assignB rfl) ?_
        refine l_nil ?_
        refine hK30 _ _ ?_
        refine wp_ret ?_
        refine c_ret1 rfl rfl ?_
        exact ⟨_, rfl, congrArg Value.bool (decide_eq_true (fun h => crc_set hl (by omega) (by omega) (Nat.xor_lt_two_pow (n := 8) (by omega) (by omega)) (by rw [(List.getElem_eq_iff (by omega)).2 hx28]; exact fun h => hy0 (xor_zero h)) (Int.ofNat.inj h))), hS32.drop⟩

end Go.Proofs.Ytmbbkliekgiolaa
