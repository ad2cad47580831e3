/- CoordinatorStops: what is stopped is not committed, for every input. No conditions. -/
import Derived.Test.YteojpdijmnpmgaaZSt6
import Derived.Test.YteojpdijmnpmgaaRows
import Derived.ProofKit
set_option linter.unusedVariables false
set_option linter.unusedSimpArgs false
namespace Go.Proofs.Yteojpdijmnpmgaa
open Go.RowKit
attribute [local irreducible] Oper.wp Sem.run Code.wp wpList wpAnyO callFunc execOp Calls
attribute [local irreducible] toU short rencs renc rowE encRow rightB zig unzig decRw rightL risB lastN bitsOf nodesTo readL recB ofL sends getT delT setT waL waE waN waR apL apE decF vot2 votesF doneF hearF replayF replayR rdB rdE scan nums hearG stopF askF numB staT kindV pickN
set_option maxHeartbeats 4000000 in
set_option maxRecDepth 100000 in
theorem stops_1 (nd : Int) (ns : List Int) (na : Option Addr) (nc : Nat) (vs : List Vo) (va : Option Addr) (vc : Nat) (keep : Int) (hvs : ∀ v ∈ vs, -9223372036854775808 ≤ v.nd ∧ -9223372036854775808 ≤ v.k) (w : World) (hN : SlG (hw w) na (iv ns)) (hV : SlG (hw w) va (List.flatMap vo vs))  : Calls Try.prog 3 #[.int .i64 nd, .agg #[.slice na ns.length nc, .slice va vs.length vc, .int .i64 keep], .bool true] w (PostR w fun v => v = .bool true) := by
 have hS := St.start w
 refine c_enter Try.func3 rfl rfl rfl ?_
 refine wp_seq_k (fun K1 hK1 => ?_)
 refine wp_region_lit ?_
 refine l_e rfl (fun K hK => ?_)
 refine e_boxA hS rfl (fun b2 w2 (hS2 : St _ _ [.blk b2 (.cells #[.slice na ns.length nc, .slice va vs.length vc, .int .i64 keep] 25)] _) => ?_)
 clear hS
 refine hK _ _ ?_; clear hK K
 refine l_q rfl rfl (q_assignB rfl) ?_
 refine l_nil ?_
 refine hK1 _ _ ?_
 refine wp_seq_k (fun K3 hK3 => ?_)
 refine wp_region_lit ?_
 refine l_e rfl (fun K hK => ?_)
 refine e_call (by kernel_rfl) (dNew_ok _) rfl (after_N hS2 (fun v4 G4 w4 hv4 hS4 => ?_))
 clear hS2
 obtain ⟨k4, rfl, rfl⟩ := hv4
 have hS5 : St _ _ [dk k4 none 0 [] 0 0, _] _ := hS4; clear hS4
 refine hK _ _ ?_; clear hK K
 have hS6 := hS5.fz0; clear hS5
 refine l_q rfl rfl (q_moveI rfl) ?_
 by_cases hnd : 0 ≤ nd ∧ nd < 16
 refine l_e rfl (fun K hK => ?_)
 have hS8 := hS6.fr1; clear hS6
 refine e_call (by kernel_rfl) (open_ok nd hnd _ _ _ [] 0 0 Bytes.nil (by first | omega | (simp only [zll] <;> omega)) (by first | omega | (simp only [zll] <;> omega)) _ (by first | omega | (simp only [zll] <;> omega)) (by rw [scan_nil]; exact Nat.zero_le _) (by rw [scan_nil]; show (replayR [] (0, [])).1 ≤ 65536; rw [replayR_nil]; exact Nat.zero_le _) _ (St.begin (Γ := [_, _]) hS8)) rfl (after_M (Γ1 := [_, _]) hS8 (fun v7 G7 w7 hv7 hS7 => ?_))
 clear hS8
 obtain ⟨k7, kw7, mb7, wa7, wc7, inc7, T7, rs7, da7, dc7, g7, rfl, rfl, hle7, hT7, hst7, hrs7, hrl7⟩ := hv7
 have hS9 : St _ _ [co k7 kw7 nd inc7 0 mb7 none [] 0 T7, wk kw7 k4 wa7 wc7 rs7, dk k4 da7 dc7 (recL ([].take (scan [] 0).2) [0, (inc7 : Int)]) 0 ((recL ([].take (scan [] 0).2) [0, (inc7 : Int)]).length), .fz g7, _] _ := hS7; clear hS7
 refine hK _ _ ?_; clear hK K
 have hsn0 : scan [] 0 = ([], 0) := scan_nil 0
 rw [hsn0, replayR_nil] at hst7
 have hi0 : inc7 = 0 := congrArg Prod.fst hst7
 have hT0 : T7 = [] := abs_nil (congrArg Prod.snd hst7)
 rw [hsn0] at hrl7
 subst hi0 hT0
 obtain ⟨l0, hl0e⟩ : ∃ l0, l0 = recL [] [0, 0] := ⟨_, rfl⟩
 have hS10 : St _ _ [co k7 kw7 nd 0 0 mb7 none [] 0 [], _, dk k4 da7 dc7 l0 0 l0.length, .fz g7, _] _ := hS9.cast (by rw [hl0e, hsn0]; rfl); clear hS9
 obtain ⟨hl0, hd0, hlen0⟩ := disk0 hl0e
 have hrl7' : rs7.length ≤ 1 := hrl7
 refine l_q rfl rfl (q_move rfl) ?_
 refine l_q rfl rfl (q_extract rfl rfl) ?_
 refine l_q rfl rfl (q_extract rfl rfl) ?_
 refine l_q rfl rfl (q_assignP rfl) ?_
 refine l_q rfl rfl (q_assignI rfl) ?_
 refine l_nil ?_
 refine hK3 _ _ ?_
 refine wp_seq_k (fun K11 hK11 => ?_)
 refine wp_seq_k (fun K12 hK12 => ?_)
 refine wp_region_lit ?_
 refine l_q rfl rfl (q_moveI rfl) ?_
 refine l_q rfl rfl (q_neq rfl rfl) ?_
 refine l_q rfl rfl (q_moveB rfl) ?_
 refine l_on rfl rfl (by decide) ?_
 refine l_q rfl rfl (q_moveP rfl) ?_
 refine l_on rfl rfl (by decide) ?_
 refine l_q rfl rfl (q_peq rfl (by kernel_rfl)) ?_
 refine l_q rfl rfl (q_pickF rfl (by decide) rfl) ?_
 refine l_q rfl rfl (q_moveB rfl) ?_
 refine l_on rfl rfl rfl ?_
 refine l_q rfl rfl (q_fieldAddr (ft := 22) (o := 0) rfl (by kernel_rfl)) ?_
 refine l_on rfl rfl rfl ?_
 refine l_q rfl rfl (q_load1 rfl (by kernel_rfl) (hS10.cell (i := 4) rfl rfl)) ?_
 refine l_on rfl rfl rfl ?_
 refine l_q rfl rfl (q_lenSl (e := 3) rfl (by kernel_rfl)) ?_
 refine l_on rfl rfl rfl ?_
 refine l_q rfl rfl (q_gtr rfl rfl) ?_
 refine l_q rfl rfl (q_pickF rfl rfl rfl) ?_
 refine l_nil ?_
 refine hK12 _ _ ?_
 refine c_cond rfl (fun hc13 => ?_) (fun hc13 => ?_)
 have hc13b := hc13
 try simp only [zbb] at hc13
 refine wp_seq_k (fun K14 hK14 => ?_)
 refine wp_region_lit ?_
 refine l_e rfl (fun K hK => ?_)
 refine e_call (by kernel_rfl) (alive13_ok _) rfl (after_R hS10 (fun v15 w15 hv15 hS15 => ?_))
 clear hS10
 obtain rfl := hv15
 refine hK _ _ ?_; clear hK K
 refine l_q rfl rfl (q_moveB rfl) ?_
 refine l_on rfl rfl rfl ?_
 refine l_q rfl rfl (q_moveI rfl) ?_
 refine l_on rfl rfl rfl ?_
 refine l_q rfl rfl (q_eql rfl rfl) ?_
 refine l_on rfl rfl rfl ?_
 refine l_q rfl rfl (q_moveB rfl) ?_
 refine l_off rfl rfl rfl (by decide) ?_
 refine l_off rfl rfl rfl (by decide) ?_
 refine l_on rfl rfl rfl ?_
 refine l_q rfl rfl (q_pickT rfl (by decide) rfl) ?_
 refine l_q rfl rfl (q_pickT rfl rfl rfl) ?_
 refine l_q rfl rfl (q_assignB rfl) ?_
 refine l_nil ?_
 refine hK14 _ _ ?_
 refine wp_ret ?_
 refine c_ret1 rfl rfl ?_
 first | exact ⟨_, rfl, rfl, hS15.drop⟩ | exact ⟨_, rfl, congrArg Value.bool (decide_eq_true (by omega)), hS15.drop⟩
 have hc13b := hc13
 try simp only [zbb] at hc13
 refine wp_skip ?_
 refine hK11 _ _ ?_
 refine wp_seq_k (fun K16 hK16 => ?_)
 refine wp_region_lit ?_
 refine l_q rfl rfl (q_moveP rfl) ?_
 refine l_e rfl (fun K hK => ?_)
 have hS18 := hS10.fr3; clear hS10
 have hS19 := hS18.fr1; clear hS18
 refine e_call (by kernel_rfl) (begin_ok k7 kw7 nd 0 0 mb7 none [] 0 [] TOk.nil g7 LOk.nil (by first | omega | (simp only [zll] <;> omega)) nd (by first | omega | (simp only [zll] <;> omega)) (by first | omega | (simp only [zll] <;> omega)) hnd (numB0 _).symm _ (St.begin (Γ := [_, _]) hS19)) rfl (after_M (Γ1 := [_, _]) hS19 (fun v17 G17 w17 hv17 hS17 => ?_))
 clear hS19
 obtain ⟨oa17, oc17, O17, T17, g17, rfl, rfl, hle17, hO17, hT17, hab17, hOe17⟩ := hv17
 have hS20 : St _ _ [co k7 kw7 nd 0 (0 + 1) mb7 oa17 O17 oc17 T17, .fz g17, _, _, _] _ := hS17; clear hS17
 have hR17_2 := RsOk.mono hrs7 hle17
 refine hK _ _ ?_; clear hK K
 obtain ⟨b17, eN17⟩ := abs_one (hab17.trans (set_nil _ _))
 subst eN17
 have eM17 := los_nil hOe17
 subst eM17
 refine l_q rfl rfl (q_move rfl) ?_
 refine l_q rfl rfl (q_extract rfl rfl) ?_
 refine l_q rfl rfl (q_extract rfl rfl) ?_
 refine l_q rfl rfl (q_assignI rfl) ?_
 refine l_q rfl rfl (q_assignI rfl) ?_
 refine l_nil ?_
 refine hK16 _ _ ?_
 refine wp_seq_k (fun K21 hK21 => ?_)
 refine wp_seq_k (fun K22 hK22 => ?_)
 refine wp_region_lit ?_
 refine l_q rfl rfl (q_moveP rfl) ?_
 refine l_q rfl rfl (q_moveI rfl) ?_
 refine l_q rfl rfl (q_fieldAddr (ft := 22) (o := 0) rfl (by kernel_rfl)) ?_
 refine l_q rfl rfl (q_load1 rfl (by kernel_rfl) (hS20.cell (i := 4) rfl rfl)) ?_
 by_cases hof : (ofL ns).2 = true
 refine l_e rfl (fun K hK => ?_)
 refine e_call (by kernel_rfl) (ask_any k7 kw7 nd 0 (0 + 1) mb7 oa17 [] oc17 [(nd, b17, zeroTx)] hT17 g17 hO17 (by first | omega | (simp only [zll] <;> omega)) nd ns ns.length (by first | omega | (simp only [zll] <;> omega)) (by first | omega | (simp only [zll] <;> omega)) na nc _ _ (St.rogB (Γ1 := [_, _]) hS20) hN (St.begin (Γ := [_, _]) hS20)) rfl (after_M (Γ1 := [_, _]) hS20 (fun v23 G23 w23 hv23 hS23 => ?_))
 clear hS20
 obtain ⟨a23, oa23, oc23, O23, T23, g23, rfl, rfl, hle23, hO23, hT23, hE23⟩ := hv23
 have hS24 : St _ _ [co k7 kw7 nd 0 (0 + 1) mb7 oa23 O23 oc23 T23, .fz g23, _, _, _] _ := hS23; clear hS23
 have hR23_2 := RsOk.mono hR17_2 hle23
 refine hK _ _ ?_; clear hK K
 obtain ⟨u, hu⟩ : ∃ u, ofL ns = (u, true) := ⟨_, Prod.ext rfl hof⟩
 obtain ⟨hun, hu0, hu1, hnn, hnl, hnp, hnx⟩ := ofL_facts hu
 obtain ⟨ea23, eT23, eO23⟩ := val3 hE23 (ask_one (u := u) rfl rfl hu)
 subst ea23
 obtain ⟨b23, eN23⟩ := abs_one eT23
 subst eN23
 have hol23 : O23.length ≤ 16 := by rw [los_len eO23, List.length_append, sends_length]; exact hnl0 hun hnl
 refine l_q rfl rfl (q_neq rfl rfl) ?_
 refine l_nil ?_
 refine hK22 _ _ ?_
 refine c_condF rfl (by decide) ?_
 refine wp_skip ?_
 refine hK21 _ _ ?_
 refine wp_seq_k (fun K26 hK26 => ?_)
 refine wp_region_lit ?_
 refine l_q rfl rfl (q_moveP rfl) ?_
 refine l_e rfl (fun K hK => ?_)
 refine e_call (by kernel_rfl) (out_ok k7 kw7 nd 0 (0 + 1) mb7 oa23 O23 oc23 [(nd, b23, (Tx.mk u zeroTx.yes zeroTx.read true zeroTx.com zeroTx.tell zeroTx.ticks))] hT23 g23 hO23 (by first | omega | (simp only [zll] <;> omega)) _ (St.begin (Γ := [_, _]) hS24)) rfl (after_M (Γ1 := [_, _]) hS24 (fun v27 G27 w27 hv27 hS27 => ?_))
 clear hS24
 obtain ⟨rfl, rfl⟩ := hv27
 have hS28 : St _ _ [.ow 42 5 oa23 O23.length oc23 (List.flatMap lo O23), co k7 kw7 nd 0 (0 + 1) mb7 none [] 0 [(nd, b23, (Tx.mk u zeroTx.yes zeroTx.read true zeroTx.com zeroTx.tell zeroTx.ticks))], .fz g23, _, _, _] _ := hS27; clear hS27
 refine hK _ _ ?_; clear hK K
 refine l_nil ?_
 refine hK26 _ _ ?_
 refine wp_seq_k (fun K29 hK29 => ?_)
 refine wp_seq_k (fun K30 hK30 => ?_)
 refine wp_region_lit ?_
 refine l_q rfl rfl (q_moveB rfl) ?_
 refine l_nil ?_
 refine hK30 _ _ ?_
 refine c_condT rfl rfl ?_
 refine wp_seq_k (fun K32 hK32 => ?_)
 refine wp_region_lit ?_
 refine l_q rfl rfl (q_moveP rfl) ?_
 refine l_q rfl rfl (q_moveI rfl) ?_
 refine l_e rfl (fun K hK => ?_)
 have hS34 := hS28.fr2; clear hS28
 have hS35 := hS34.fr2; clear hS34
 refine e_call (by kernel_rfl) (stop_any k7 kw7 nd 0 (0 + 1) mb7 none [] 0 [(nd, b23, (Tx.mk u zeroTx.yes zeroTx.read true zeroTx.com zeroTx.tell zeroTx.ticks))] hT23 g23 LOk.nil (by first | omega | (simp only [zll] <;> omega)) nd _ (St.begin (Γ := [_, _]) hS35)) rfl (after_M (Γ1 := [_, _]) hS35 (fun v33 G33 w33 hv33 hS33 => ?_))
 clear hS35
 obtain ⟨a33, oa33, oc33, O33, T33, g33, rfl, rfl, hle33, hO33, hT33, hE33⟩ := hv33
 have hS36 : St _ _ [co k7 kw7 nd 0 (0 + 1) mb7 oa33 O33 oc33 T33, .fz g33, _, _, _, _] _ := hS33; clear hS33
 have hR33_3 := RsOk.mono hR23_2 hle33
 refine hK _ _ ?_; clear hK K
 obtain ⟨ea33, eT33, eO33⟩ := val3 hE33 (stop_one rfl)
 subst ea33
 have eN33 := abs_nil eT33
 subst eN33
 have hol33 : O33.length = ns.length := by rw [los_len eO33]; show (sends 6 nd nd (nodesTo u 16) 0).length = _; rw [sends_length, hun]
 refine l_q rfl rfl (q_neq rfl rfl) ?_
 refine l_nil ?_
 refine hK32 _ _ ?_
 refine c_condF rfl (by decide) ?_
 refine wp_skip ?_
 refine hK29 _ _ ?_
 refine wp_seq_k (fun K38 hK38 => ?_)
 refine wp_region_lit ?_
 refine l_q rfl rfl (q_moveP rfl) ?_
 refine l_e rfl (fun K hK => ?_)
 refine e_call (by kernel_rfl) (out_ok k7 kw7 nd 0 (0 + 1) mb7 oa33 O33 oc33 [] hT33 g33 hO33 (by first | omega | (simp only [zll] <;> omega)) _ (St.begin (Γ := [_, _]) hS36)) rfl (after_M (Γ1 := [_, _]) hS36 (fun v39 G39 w39 hv39 hS39 => ?_))
 clear hS36
 obtain ⟨rfl, rfl⟩ := hv39
 have hS40 : St _ _ [.ow 42 5 oa33 O33.length oc33 (List.flatMap lo O33), co k7 kw7 nd 0 (0 + 1) mb7 none [] 0 [], .fz g33, _, _, _, _] _ := hS39; clear hS39
 refine hK _ _ ?_; clear hK K
 refine l_q rfl rfl (q_assignS rfl) ?_
 refine l_nil ?_
 refine hK38 _ _ ?_
 refine wp_seq_k (fun K41 hK41 => ?_)
 refine wp_region_lit ?_
 refine l_q rfl rfl (q_fieldAddr (ft := 22) (o := 0) rfl (by kernel_rfl)) ?_
 refine l_q rfl rfl (q_load1 rfl (by kernel_rfl) (hS40.cell (i := 6) rfl rfl)) ?_
 refine l_q rfl rfl (q_lenSl (e := 3) rfl (by kernel_rfl)) ?_
 refine l_q rfl rfl (q_assignI rfl) ?_
 refine l_nil ?_
 refine hK41 _ _ ?_
 refine wp_seq_k (fun K42 hK42 => ?_)
 refine wp_seq_k (fun K43 hK43 => ?_)
 refine wp_region_lit ?_
 refine l_q rfl rfl (q_moveB rfl) ?_
 refine l_q rfl rfl (q_not rfl) ?_
 refine l_nil ?_
 refine hK43 _ _ ?_
 refine c_condF rfl rfl ?_
 refine wp_skip ?_
 refine hK42 _ _ ?_
 refine wp_seq_k (fun K45 hK45 => ?_)
 refine wp_seq_k (fun K46 hK46 => ?_)
 refine wp_region_lit ?_
 refine l_q rfl rfl (q_moveS rfl) ?_
 refine l_q rfl rfl (q_lenSl (e := 42) rfl (by kernel_rfl)) ?_
 refine l_q rfl rfl (q_moveI rfl) ?_
 refine l_q rfl rfl (q_neq rfl rfl) ?_
 refine l_q rfl rfl (q_moveB rfl) ?_
 refine g_splitL (t := 87) rfl (fun hg47 => ?_) (fun hg47 => ?_)
 have hg47b := hg47
 try simp only [zbb] at hg47
 exfalso; first | omega | exact hg47 trivial | exact absurd hg47 (by decide)
 have hg47b := hg47
 try simp only [zbb] at hg47
 refine l_on rfl rfl hg47b ?_
 refine l_q rfl rfl (q_moveP rfl) ?_
 refine l_on rfl rfl hg47b ?_
 refine l_q rfl rfl (q_moveI rfl) ?_
 refine l_on rfl rfl hg47b ?_
 refine l_e rfl (fun K hK => ?_)
 have hS49 := hS40.fr2; clear hS40
 have hS50 := hS49.fr2; clear hS49
 refine e_call (by kernel_rfl) (state_any k7 kw7 nd 0 (0 + 1) mb7 none [] 0 [] hT33 g33 LOk.nil (by first | omega | (simp only [zll] <;> omega)) nd _ (St.begin (Γ := [_, _]) hS50)) rfl (after_M (Γ1 := [_, _]) hS50 (fun v48 G48 w48 hv48 hS48 => ?_))
 clear hS50
 obtain ⟨a48, rfl, rfl, hE48⟩ := hv48
 have hS51 : St _ _ [_, .fz g33, _, _, _, _, _] _ := hS48; clear hS48
 refine hK _ _ ?_; clear hK K
 have ha48 : a48 = 0 := hE48.symm.trans (sta_nil _)
 subst ha48
 refine l_on rfl rfl hg47b ?_
 refine l_q rfl rfl (q_neq rfl rfl) ?_
 refine l_q rfl rfl (q_pickF rfl hg47b rfl) ?_
 refine l_nil ?_
 refine hK46 _ _ ?_
 refine c_condF rfl (by decide) ?_
 refine wp_skip ?_
 refine hK45 _ _ ?_
 refine wp_seq_k (fun K53 hK53 => ?_)
 refine wp_seq_k (fun K54 hK54 => ?_)
 refine wp_region_lit ?_
 refine l_q rfl rfl (q_assignI rfl) ?_
 refine l_nil ?_
 refine hK54 _ _ ?_
 refine wp_block ?_
 have hrl9 : rs7.length ≤ 3 := by omega
 have hS55 := hS51.fr6; clear hS51
 have hS56 := hS55.fr2; clear hS55
 have hS57 := hS56.fr6; clear hS56
 have hS58 := hS57.fr6; clear hS57
 have hS59 := hS58.fr4; clear hS58
 have hS60 : St _ _ [_, _, _, .fz g33, _] _ := hS59.only 5; clear hS59
 refine c_loop (τ := Nat × (Option Addr) × Nat × (List Rc) × (Option Addr) × Nat × (List Nat) × Nat × Gh) [(6, 6), (13, 18), (93, 165)] (fun x => (fun (i : Nat) (wa : Option Addr) (wc : Nat) (rs : List Rc) (da : Option Addr) (dc : Nat) (l : List Nat) (s : Nat) (g : Gh) => [(13, .int .i64 (i : Int))]) x.1 x.2.1 x.2.2.1 x.2.2.2.1 x.2.2.2.2.1 x.2.2.2.2.2.1 x.2.2.2.2.2.2.1 x.2.2.2.2.2.2.2.1 x.2.2.2.2.2.2.2.2) (fun x w' => (fun (i : Nat) (wa : Option Addr) (wc : Nat) (rs : List Rc) (da : Option Addr) (dc : Nat) (l : List Nat) (s : Nat) (g : Gh) => St w (fun _ => False) [co k7 kw7 nd 0 (0 + 1) mb7 none [] 0 [], wk kw7 k4 wa wc rs, dk k4 da dc l 0 s, .fz g, .blk b2 (.cells #[.slice na ns.length nc, .slice va vs.length vc, .int .i64 keep] 25)] w' ∧ i ≤ vs.length ∧ Gle g33 g ∧ RsOk g rs ∧ rs.length ≤ 3 + i ∧ Bytes l ∧ s ≤ l.length ∧ l.length ≤ 3382) x.1 x.2.1 x.2.2.1 x.2.2.2.1 x.2.2.2.2.1 x.2.2.2.2.2.1 x.2.2.2.2.2.2.1 x.2.2.2.2.2.2.2.1 x.2.2.2.2.2.2.2.2) (fun x => (fun (i : Nat) (wa : Option Addr) (wc : Nat) (rs : List Rc) (da : Option Addr) (dc : Nat) (l : List Nat) (s : Nat) (g : Gh) => vs.length - i) x.1 x.2.1 x.2.2.1 x.2.2.2.1 x.2.2.2.2.1 x.2.2.2.2.2.1 x.2.2.2.2.2.2.1 x.2.2.2.2.2.2.2.1 x.2.2.2.2.2.2.2.2) (⟨0, wa7, wc7, rs7, da7, dc7, l0, l0.length, g33⟩) ?_ (by repeat' (first | exact trivial | refine ⟨by first | rfl | exact int_succ _ | assumption, ?_⟩)) (fun x61 j61 w61 hJ61 K61 hK61 => ?_)
 exact ⟨hS60, Nat.zero_le _, Gle.refl _, hR33_3, by omega, hl0, Nat.le_refl _, hlen0⟩
 obtain ⟨i, wa, wc, rs, da, dc, l, s, g⟩ := x61
 obtain ⟨hS61, hi, hg0, hR, hrn, hl, hsl, hll⟩ := hJ61
 try dsimp only at hS61 hi hg0 hR hrn hl hsl hll ⊢
 refine wp_seq_k (fun K62 hK62 => ?_)
 refine wp_seq_k (fun K63 hK63 => ?_)
 refine wp_region_lit ?_
 refine l_q rfl rfl (q_moveI rfl) ?_
 refine l_q rfl rfl (q_fieldAddr (ft := 23) (o := 1) rfl (by kernel_rfl)) ?_
 refine l_q rfl rfl (q_load1 rfl (by kernel_rfl) (hS61.cell (i := 4) rfl rfl)) ?_
 refine l_q rfl rfl (q_lenSl (e := 45) rfl (by kernel_rfl)) ?_
 refine l_q rfl rfl (q_lss rfl rfl) ?_
 refine l_q rfl rfl (q_moveB rfl) ?_
 refine g_splitL (t := 98) rfl (fun hg64 => ?_) (fun hg64 => ?_)
 have hg64b := hg64
 try simp only [zbb] at hg64
 refine l_on rfl rfl hg64b ?_
 refine l_q rfl rfl (q_moveI rfl) ?_
 refine l_on rfl rfl hg64b ?_
 refine l_q rfl rfl (q_lss rfl rfl) ?_
 refine l_q rfl rfl (q_pickT rfl hg64b rfl) ?_
 refine l_nil ?_
 refine hK63 _ _ ?_
 refine c_cond rfl (fun hc65 => ?_) (fun hc65 => ?_)
 have hc65b := hc65
 try simp only [zbb] at hc65
 refine wp_skip ?_
 refine hK62 _ _ ?_
 refine wp_seq_k (fun K66 hK66 => ?_)
 refine wp_block ?_
 refine wp_seq_k (fun K67 hK67 => ?_)
 refine wp_region_lit ?_
 refine l_q rfl rfl (q_fieldAddr (ft := 23) (o := 1) rfl (by kernel_rfl)) ?_
 refine l_q rfl rfl (q_load1 rfl (by kernel_rfl) (hS61.cell (i := 4) rfl rfl)) ?_
 refine l_q rfl rfl (q_moveI rfl) ?_
 refine l_q rfl rfl (q_ixG (e := 45) (m := 3) (j := i) rfl rfl (by kernel_rfl) (by kernel_rfl) (by first | rfl | omega) (by omega) hV (by rw [rows_len (c := vo) (m := 3) (fun _ => rfl)]; first | omega | (simp only [zll] <;> omega))) ?_
 obtain ⟨x68, hx68⟩ : ∃ x, (vs)[i]? = some x := ⟨_, List.getElem?_eq_getElem (by first | omega | (simp only [zll] <;> omega) | (simp <;> omega))⟩
 have hvo_x68 := hvs x68 (List.mem_of_getElem? hx68)
 refine l_q rfl rfl (q_loadGA (m := 3) rfl (by kernel_rfl) (by kernel_rfl) (hV.mono hS61.base) (row_take hx68 (c := vo) (m := 3) (fun _ => rfl)) rfl (by decide)) ?_
 refine l_e rfl (fun K hK => ?_)
 refine e_alloc (zv := .agg #[.int .i64 0, .int .i64 0, .bool false]) hS61 (by kernel_rfl) (fun b69 w69 (hS69 : St _ _ [.blk b69 (.cells #[.int .i64 (0 : Int), .int .i64 (0 : Int), .bool false] 45), _, wk kw7 k4 wa wc rs, dk k4 da dc l 0 s, .fz g, _] _) => ?_)
 clear hS61
 refine hK _ _ ?_; clear hK K
 refine l_e rfl (fun K hK => ?_)
 refine e_storeA hS69 rfl rfl (by kernel_rfl) (by repeat' (first | exact trivial | refine ⟨by first | rfl | assumption | exact one_if (by assumption), ?_⟩)) (i := 0) rfl rfl (fun w70 (hS70 : St _ _ [.blk b69 (.cells #[.int .i64 x68.nd, .int .i64 x68.k, .bool x68.p] 45), _, _, _, .fz g, _] _) => ?_)
 clear hS69
 refine hK _ _ ?_; clear hK K
 refine l_nil ?_
 refine hK67 _ _ ?_
 refine wp_seq_k (fun K71 hK71 => ?_)
 refine wp_region_lit ?_
 refine l_q rfl rfl (q_fieldAddr (ft := 3) (o := 0) rfl (by kernel_rfl)) ?_
 refine l_q rfl rfl (q_load1 rfl (by kernel_rfl) (hS70.cell (i := 0) rfl rfl)) ?_
 refine l_e rfl (fun K hK => ?_)
 refine e_call (by kernel_rfl) (pick13_ok x68.nd 16 (by first | omega | (simp only [zll] <;> omega)) (by first | omega | (simp only [zll] <;> omega)) _) rfl (after_R hS70 (fun v72 w72 hv72 hS72 => ?_))
 clear hS70
 obtain rfl := hv72
 have hpk72 := pickN_lt x68.nd (n := 16) (by omega)
 refine hK _ _ ?_; clear hK K
 refine l_q rfl rfl (q_assignI rfl) ?_
 refine l_nil ?_
 refine hK71 _ _ ?_
 refine wp_seq_k (fun K73 hK73 => ?_)
 refine wp_region_lit ?_
 refine l_q rfl rfl (q_fieldAddr (ft := 3) (o := 1) rfl (by kernel_rfl)) ?_
 refine l_q rfl rfl (q_load1 rfl (by kernel_rfl) (hS72.cell (i := 0) rfl rfl)) ?_
 refine l_e rfl (fun K hK => ?_)
 refine e_call (by kernel_rfl) (kind_ok x68.k (by omega) _) rfl (after_R hS72 (fun v74 w74 hv74 hS74 => ?_))
 clear hS72
 obtain rfl := hv74
 have hkd74 := kindV_in x68.k
 refine hK _ _ ?_; clear hK K
 rcases hkd74 with hkk | hkk | hkk
 rw [hkk]
 refine l_q rfl rfl (q_assignI rfl) ?_
 refine l_nil ?_
 refine hK73 _ _ ?_
 refine wp_seq_k (fun K75 hK75 => ?_)
 refine wp_seq_k (fun K76 hK76 => ?_)
 refine wp_region_lit ?_
 refine l_q rfl rfl (q_fieldAddr (ft := 4) (o := 2) rfl (by kernel_rfl)) ?_
 refine l_q rfl rfl (q_load1 rfl (by kernel_rfl) (hS74.cell (i := 0) rfl rfl)) ?_
 refine l_nil ?_
 refine hK76 _ _ ?_
 refine c_cond rfl (fun hc77 => ?_) (fun hc77 => ?_)
 have hc77b := hc77
 try simp only [zbb] at hc77
 refine wp_region_lit ?_
 refine l_q rfl rfl (q_assignI rfl) ?_
 refine l_nil ?_
 refine hK75 _ _ ?_
 refine wp_seq_k (fun K78 hK78 => ?_)
 refine wp_region_lit ?_
 refine l_q rfl rfl (q_moveP rfl) ?_
 refine l_q rfl rfl (q_moveI rfl) ?_
 refine l_q rfl rfl (q_moveI rfl) ?_
 refine l_q rfl rfl (q_moveI rfl) ?_
 refine l_q rfl rfl (q_moveI rfl) ?_
 refine l_q rfl rfl (q_build (ps := [(0, 1), (1, 1), (2, 1), (3, 1), (4, 1)]) (zv := .agg #[.int .i64 0, .int .i64 0, .int .i64 0, .int .i64 0, .slice none 0 0]) (by kernel_rfl) (by kernel_rfl) rfl (by repeat' (first | exact trivial | refine ⟨fun _ => by first | rfl | assumption | exact one_if (by assumption), ?_⟩ | refine ⟨fun ⟨_, h⟩ => by simp at h, ?_⟩)) rfl) ?_
 refine l_e rfl (fun K hK => ?_)
 have hS80 := hS74.fr4; clear hS74
 have hS81 := hS80.fr4; clear hS80
 have hS82 := hS81.fr4; clear hS81
 have hS83 := hS82.fr4; clear hS82
 refine e_call (by kernel_rfl) (hear_any k7 kw7 nd 0 (0 + 1) mb7 none [] 0 [] TOk.nil g LOk.nil (by first | omega | (simp only [zll] <;> omega)) k4 wa wc rs da dc l 0 s (by first | omega | (simp only [zll] <;> omega)) hl (by first | omega | (simp only [zll] <;> omega)) (by first | omega | (simp only [zll] <;> omega)) hR (Lr.mk (8 : Int) (((pickN x68.nd 16) : Nat) : Int) nd nd []) none 0 0 rfl (by first | omega | (simp only [zll] <;> omega)) _ _ ((fun _ _ e => by cases e) : Rog [_, _, _, _] _ (fun _ => none)) SlG.nil (St.begin (Γ := [_, _, _, _]) hS83)) rfl (after_M (Γ1 := [_, _, _, _]) hS83 (fun v79 G79 w79 hv79 hS79 => ?_))
 clear hS83
 obtain ⟨a79, oa79, oc79, O79, T79, wa79, wc79, rs79, da79, dc79, l79, s79, g79, rfl, rfl, hle79, hO79, hT79, hE79, hrs79, hrl79, hGr79⟩ := hv79
 have hS84 : St _ _ [co k7 kw7 nd 0 (0 + 1) mb7 oa79 O79 oc79 T79, wk kw7 k4 wa79 wc79 rs79, dk k4 da79 dc79 l79 0 s79, .fz g79, _, _] _ := hS79; clear hS79
 have hGs79 := hGr79.2.1; have hGl79 := hGr79.2.2.1; have hGm79 := hGr79.2.2.2
 refine hK _ _ ?_; clear hK K
 obtain ⟨ea79, eT79, eO79, el79, es79⟩ := val5 hE79 (hear_none1 (m := (pickN x68.nd 16)) (by decide) (by omega) hnd _ _ _)
 subst ea79
 have eN79 := abs_nil eT79
 subst eN79
 have el79' := el79.symm; have es79' := es79.symm; subst el79' es79'
 have eO79 : O79.map Lo.l = [Lr.mk 6 nd (((pickN x68.nd 16) : Nat) : Int) nd []] := eO79
 have hol79 : O79.length = 1 := los_len eO79
 refine l_nil ?_
 refine hK78 _ _ ?_
 refine wp_seq_k (fun K85 hK85 => ?_)
 refine wp_region_lit ?_
 refine l_q rfl rfl (q_moveP rfl) ?_
 refine l_e rfl (fun K hK => ?_)
 have hS87 := hS84.fr3; clear hS84
 have hS88 := hS87.fr1; clear hS87
 refine e_call (by kernel_rfl) (out_ok k7 kw7 nd 0 (0 + 1) mb7 oa79 O79 oc79 [] hT79 g79 hO79 (by first | omega | (simp only [zll] <;> omega)) _ (St.begin (Γ := [_, _]) hS88)) rfl (after_M (Γ1 := [_, _]) hS88 (fun v86 G86 w86 hv86 hS86 => ?_))
 clear hS88
 obtain ⟨rfl, rfl⟩ := hv86
 have hS89 : St _ _ [.ow 42 5 oa79 O79.length oc79 (List.flatMap lo O79), _, .fz g79, _, dk k4 da79 dc79 l 0 s, _, _] _ := hS86; clear hS86
 refine hK _ _ ?_; clear hK K
 refine l_q rfl rfl (q_assignS rfl) ?_
 refine l_nil ?_
 refine hK85 _ _ ?_
 refine wp_seq_k (fun K90 hK90 => ?_)
 refine wp_region_lit ?_
 refine l_q rfl rfl (q_moveI rfl) ?_
 refine l_q rfl rfl (q_eql rfl rfl) ?_
 refine l_q rfl rfl (q_moveB rfl) ?_
 refine l_on rfl rfl (by decide) ?_
 refine l_q rfl rfl (q_moveI rfl) ?_
 refine l_on rfl rfl (by decide) ?_
 refine l_q rfl rfl (q_eql rfl rfl) ?_
 refine l_q rfl rfl (q_pickF rfl (by decide) rfl) ?_
 refine l_q rfl rfl (q_assignB rfl) ?_
 refine l_nil ?_
 refine hK90 _ _ ?_
 refine wp_seq_k (fun K91 hK91 => ?_)
 refine wp_region_lit ?_
 refine l_q rfl rfl (q_moveB rfl) ?_
 refine l_q rfl rfl (q_moveS rfl) ?_
 refine l_q rfl rfl (q_lenSl (e := 42) rfl (by kernel_rfl)) ?_
 refine l_q rfl rfl (q_bc (b := true) (decide_eq_true (by omega)) (q_eql rfl rfl)) ?_
 refine l_q rfl rfl (q_bool_neq rfl rfl (by kernel_rfl)) ?_
 refine l_q rfl rfl (q_moveB rfl) ?_
 refine l_on rfl rfl rfl ?_
 refine l_q rfl rfl (q_moveS rfl) ?_
 refine l_on rfl rfl rfl ?_
 refine l_q rfl rfl (q_lenSl (e := 42) rfl (by kernel_rfl)) ?_
 refine l_on rfl rfl rfl ?_
 refine l_q rfl rfl (q_bc (b := false) (decide_eq_false (by omega)) (q_gtr rfl rfl)) ?_
 refine l_q rfl rfl (q_pickF rfl rfl rfl) ?_
 refine l_q rfl rfl (q_moveB rfl) ?_
 refine l_on rfl rfl rfl ?_
 refine l_q rfl rfl (q_moveB rfl) ?_
 refine l_on rfl rfl rfl ?_
 refine l_q rfl rfl (q_moveB rfl) ?_
 refine l_on rfl rfl (by decide) ?_
 refine l_q rfl rfl (q_moveS rfl) ?_
 refine l_on rfl rfl (by decide) ?_
 refine l_q rfl rfl (q_ixG (e := 42) (m := 5) (j := 0) rfl rfl (by kernel_rfl) (by kernel_rfl) (by first | rfl | omega) (by omega) (hS89.owG (i := 0) rfl) (by rw [rows_len (c := lo) (m := 5) (fun _ => rfl)]; first | omega | (simp only [zll] <;> omega))) ?_
 refine l_on rfl rfl (by decide) ?_
 refine l_q rfl rfl (q_fieldG (ft := 40) (o := 0) rfl (by kernel_rfl)) ?_
 refine l_on rfl rfl (by decide) ?_
 obtain ⟨x92, hx92⟩ : ∃ x, (O79)[0]? = some x := ⟨_, List.getElem?_eq_getElem (by first | omega | (simp only [zll] <;> omega) | (simp <;> omega))⟩
 have hlx_x92 := (hO79 x92 (List.mem_of_getElem? hx92)).2
 refine l_q rfl rfl (q_load1 rfl (by kernel_rfl) (SlG.cell (hS89.owG (i := 0) rfl) (Gle.refl _) (row_at hx92 (c := lo) (m := 5) (fun _ => rfl) (j := 0) rfl))) ?_
 have hl1 : Lr.mk 6 nd (((pickN x68.nd 16) : Nat) : Int) nd [] = x92.l := Option.some.inj (los_at eO79 hx92)
 have hlk : x92.l.k = 6 := by rw [← hl1]
 have hlt : x92.l.t = (((pickN x68.nd 16) : Nat) : Int) := by rw [← hl1]
 refine l_on rfl rfl (by decide) ?_
 refine l_q rfl rfl (q_neq rfl rfl) ?_
 refine l_on rfl rfl (by decide) ?_
 refine l_q rfl rfl (q_moveB rfl) ?_
 refine g_splitL (t := 150) rfl (fun hg93 => ?_) (fun hg93 => ?_)
 have hg93b := hg93
 try simp only [zbb] at hg93
 exfalso; first | omega | exact hg93 trivial | exact absurd hg93 (by decide)
 have hg93b := hg93
 try simp only [zbb] at hg93
 refine l_on rfl rfl hg93b ?_
 refine l_q rfl rfl (q_moveS rfl) ?_
 refine l_on rfl rfl hg93b ?_
 refine l_q rfl rfl (q_ixG (e := 42) (m := 5) (j := 0) rfl rfl (by kernel_rfl) (by kernel_rfl) (by first | rfl | omega) (by omega) (hS89.owG (i := 0) rfl) (by rw [rows_len (c := lo) (m := 5) (fun _ => rfl)]; first | omega | (simp only [zll] <;> omega))) ?_
 refine l_on rfl rfl hg93b ?_
 refine l_q rfl rfl (q_fieldG (ft := 3) (o := 2) rfl (by kernel_rfl)) ?_
 refine l_on rfl rfl hg93b ?_
 refine l_q rfl rfl (q_load1 rfl (by kernel_rfl) (SlG.cell (hS89.owG (i := 0) rfl) (Gle.refl _) (row_at hx92 (c := lo) (m := 5) (fun _ => rfl) (j := 2) rfl))) ?_
 refine l_on rfl rfl hg93b ?_
 refine l_q rfl rfl (q_moveI rfl) ?_
 refine l_on rfl rfl hg93b ?_
 refine l_q rfl rfl (q_neq rfl rfl) ?_
 refine l_on rfl rfl (by decide) ?_
 refine l_q rfl rfl (q_pickF rfl hg93b rfl) ?_
 refine l_on rfl rfl rfl ?_
 refine l_q rfl rfl (q_pickT rfl (by decide) rfl) ?_
 refine l_q rfl rfl (q_pickF rfl rfl rfl) ?_
 refine l_q rfl rfl (q_moveB rfl) ?_
 refine g_splitL (t := 160) rfl (fun hg94 => ?_) (fun hg94 => ?_)
 have hg94b := hg94
 try simp only [zbb] at hg94
 exfalso; first | omega | exact hg94 trivial | exact absurd hg94 (by decide)
 have hg94b := hg94
 try simp only [zbb] at hg94
 refine l_on rfl rfl hg94b ?_
 refine l_q rfl rfl (q_moveP rfl) ?_
 refine l_on rfl rfl hg94b ?_
 refine l_q rfl rfl (q_moveI rfl) ?_
 refine l_on rfl rfl hg94b ?_
 refine l_e rfl (fun K hK => ?_)
 have hS96 := hS89.fr2; clear hS89
 have hS97 := hS96.fr2; clear hS96
 refine e_call (by kernel_rfl) (state_any k7 kw7 nd 0 (0 + 1) mb7 none [] 0 [] hT79 g79 LOk.nil (by first | omega | (simp only [zll] <;> omega)) nd _ (St.begin (Γ := [_, _]) hS97)) rfl (after_M (Γ1 := [_, _]) hS97 (fun v95 G95 w95 hv95 hS95 => ?_))
 clear hS97
 obtain ⟨a95, rfl, rfl, hE95⟩ := hv95
 have hS98 : St _ _ [_, .fz g79, _, _, _, _, _] _ := hS95; clear hS95
 refine hK _ _ ?_; clear hK K
 have ha95 : a95 = 0 := hE95.symm.trans (sta_nil _)
 subst ha95
 refine l_on rfl rfl hg94b ?_
 refine l_q rfl rfl (q_neq rfl rfl) ?_
 refine l_q rfl rfl (q_pickF rfl hg94b rfl) ?_
 refine l_nil ?_
 refine hK91 _ _ ?_
 refine c_condF rfl (by decide) ?_
 refine wp_skip ?_
 refine hK66 _ _ ?_
 refine wp_region_lit ?_
 refine l_q rfl rfl (q_moveI rfl) ?_
 refine l_q rfl rfl (q_addx rfl rfl (by first | decide | omega) (by first | decide | omega)) ?_
 refine l_q rfl rfl (q_assignI rfl) ?_
 refine l_nil ?_
 have hS100 := hS98.fr6; clear hS98
 have hS101 := hS100.fr2; clear hS100
 have hS102 := hS101.fr5; clear hS101
 have hS103 := hS102.fr5; clear hS102
 have hS104 := hS103.fr4; clear hS103
 have hS105 : St _ _ [_, _, _, .fz g79, _] _ := hS104.only 5; clear hS104
 refine hK61 _ _ (came (⟨(i + 1), wa79, wc79, rs79, da79, dc79, l, s, g79⟩) (by repeat' (first | exact Agree.refl _ _ | refine Agree.up ?_ rfl | refine Agree.hav2 ?_ rfl | refine Agree.ups2 ?_ rfl)) (by repeat' (first | exact trivial | refine ⟨by first | rfl | exact int_succ _ | assumption, ?_⟩)) ?_)
 exact ⟨⟨hS105, (by show i + 1 ≤ vs.length; omega), hg0.trans (by first | exact hle79 | skip), hrs79, (by show rs79.length ≤ 3 + (i + 1); omega), hl, hsl, hll⟩, by (show vs.length - (i + 1) < vs.length - i); omega⟩
 have hc77b := hc77
 try simp only [zbb] at hc77
 refine wp_skip ?_
 refine hK75 _ _ ?_
 refine wp_seq_k (fun K106 hK106 => ?_)
 refine wp_region_lit ?_
 refine l_q rfl rfl (q_moveP rfl) ?_
 refine l_q rfl rfl (q_moveI rfl) ?_
 refine l_q rfl rfl (q_moveI rfl) ?_
 refine l_q rfl rfl (q_moveI rfl) ?_
 refine l_q rfl rfl (q_moveI rfl) ?_
 refine l_q rfl rfl (q_build (ps := [(0, 1), (1, 1), (2, 1), (3, 1), (4, 1)]) (zv := .agg #[.int .i64 0, .int .i64 0, .int .i64 0, .int .i64 0, .slice none 0 0]) (by kernel_rfl) (by kernel_rfl) rfl (by repeat' (first | exact trivial | refine ⟨fun _ => by first | rfl | assumption | exact one_if (by assumption), ?_⟩ | refine ⟨fun ⟨_, h⟩ => by simp at h, ?_⟩)) rfl) ?_
 refine l_e rfl (fun K hK => ?_)
 have hS108 := hS74.fr4; clear hS74
 have hS109 := hS108.fr4; clear hS108
 have hS110 := hS109.fr4; clear hS109
 have hS111 := hS110.fr4; clear hS110
 refine e_call (by kernel_rfl) (hear_any k7 kw7 nd 0 (0 + 1) mb7 none [] 0 [] TOk.nil g LOk.nil (by first | omega | (simp only [zll] <;> omega)) k4 wa wc rs da dc l 0 s (by first | omega | (simp only [zll] <;> omega)) hl (by first | omega | (simp only [zll] <;> omega)) (by first | omega | (simp only [zll] <;> omega)) hR (Lr.mk (2 : Int) (((pickN x68.nd 16) : Nat) : Int) nd nd []) none 0 0 rfl (by first | omega | (simp only [zll] <;> omega)) _ _ ((fun _ _ e => by cases e) : Rog [_, _, _, _] _ (fun _ => none)) SlG.nil (St.begin (Γ := [_, _, _, _]) hS111)) rfl (after_M (Γ1 := [_, _, _, _]) hS111 (fun v107 G107 w107 hv107 hS107 => ?_))
 clear hS111
 obtain ⟨a107, oa107, oc107, O107, T107, wa107, wc107, rs107, da107, dc107, l107, s107, g107, rfl, rfl, hle107, hO107, hT107, hE107, hrs107, hrl107, hGr107⟩ := hv107
 have hS112 : St _ _ [co k7 kw7 nd 0 (0 + 1) mb7 oa107 O107 oc107 T107, wk kw7 k4 wa107 wc107 rs107, dk k4 da107 dc107 l107 0 s107, .fz g107, _, _] _ := hS107; clear hS107
 have hGs107 := hGr107.2.1; have hGl107 := hGr107.2.2.1; have hGm107 := hGr107.2.2.2
 refine hK _ _ ?_; clear hK K
 obtain ⟨ea107, eT107, eO107, el107, es107⟩ := val5 hE107 (hear_none1 (m := (pickN x68.nd 16)) (by decide) (by omega) hnd _ _ _)
 subst ea107
 have eN107 := abs_nil eT107
 subst eN107
 have el107' := el107.symm; have es107' := es107.symm; subst el107' es107'
 have eO107 : O107.map Lo.l = [Lr.mk 6 nd (((pickN x68.nd 16) : Nat) : Int) nd []] := eO107
 have hol107 : O107.length = 1 := los_len eO107
 refine l_nil ?_
 refine hK106 _ _ ?_
 refine wp_seq_k (fun K113 hK113 => ?_)
 refine wp_region_lit ?_
 refine l_q rfl rfl (q_moveP rfl) ?_
 refine l_e rfl (fun K hK => ?_)
 have hS115 := hS112.fr3; clear hS112
 have hS116 := hS115.fr1; clear hS115
 refine e_call (by kernel_rfl) (out_ok k7 kw7 nd 0 (0 + 1) mb7 oa107 O107 oc107 [] hT107 g107 hO107 (by first | omega | (simp only [zll] <;> omega)) _ (St.begin (Γ := [_, _]) hS116)) rfl (after_M (Γ1 := [_, _]) hS116 (fun v114 G114 w114 hv114 hS114 => ?_))
 clear hS116
 obtain ⟨rfl, rfl⟩ := hv114
 have hS117 : St _ _ [.ow 42 5 oa107 O107.length oc107 (List.flatMap lo O107), _, .fz g107, _, dk k4 da107 dc107 l 0 s, _, _] _ := hS114; clear hS114
 refine hK _ _ ?_; clear hK K
 refine l_q rfl rfl (q_assignS rfl) ?_
 refine l_nil ?_
 refine hK113 _ _ ?_
 refine wp_seq_k (fun K118 hK118 => ?_)
 refine wp_region_lit ?_
 refine l_q rfl rfl (q_moveI rfl) ?_
 refine l_q rfl rfl (q_eql rfl rfl) ?_
 refine l_q rfl rfl (q_moveB rfl) ?_
 refine l_off rfl rfl rfl (by decide) ?_
 refine l_off rfl rfl rfl (by decide) ?_
 refine l_q rfl rfl (q_pickT rfl (by decide) rfl) ?_
 refine l_q rfl rfl (q_assignB rfl) ?_
 refine l_nil ?_
 refine hK118 _ _ ?_
 refine wp_seq_k (fun K119 hK119 => ?_)
 refine wp_region_lit ?_
 refine l_q rfl rfl (q_moveB rfl) ?_
 refine l_q rfl rfl (q_moveS rfl) ?_
 refine l_q rfl rfl (q_lenSl (e := 42) rfl (by kernel_rfl)) ?_
 refine l_q rfl rfl (q_bc (b := true) (decide_eq_true (by omega)) (q_eql rfl rfl)) ?_
 refine l_q rfl rfl (q_bool_neq rfl rfl (by kernel_rfl)) ?_
 refine l_q rfl rfl (q_moveB rfl) ?_
 refine l_on rfl rfl rfl ?_
 refine l_q rfl rfl (q_moveS rfl) ?_
 refine l_on rfl rfl rfl ?_
 refine l_q rfl rfl (q_lenSl (e := 42) rfl (by kernel_rfl)) ?_
 refine l_on rfl rfl rfl ?_
 refine l_q rfl rfl (q_bc (b := false) (decide_eq_false (by omega)) (q_gtr rfl rfl)) ?_
 refine l_q rfl rfl (q_pickF rfl rfl rfl) ?_
 refine l_q rfl rfl (q_moveB rfl) ?_
 refine l_on rfl rfl rfl ?_
 refine l_q rfl rfl (q_moveB rfl) ?_
 refine l_on rfl rfl rfl ?_
 refine l_q rfl rfl (q_moveB rfl) ?_
 refine l_on rfl rfl rfl ?_
 refine l_q rfl rfl (q_moveS rfl) ?_
 refine l_on rfl rfl rfl ?_
 refine l_q rfl rfl (q_ixG (e := 42) (m := 5) (j := 0) rfl rfl (by kernel_rfl) (by kernel_rfl) (by first | rfl | omega) (by omega) (hS117.owG (i := 0) rfl) (by rw [rows_len (c := lo) (m := 5) (fun _ => rfl)]; first | omega | (simp only [zll] <;> omega))) ?_
 refine l_on rfl rfl rfl ?_
 refine l_q rfl rfl (q_fieldG (ft := 40) (o := 0) rfl (by kernel_rfl)) ?_
 refine l_on rfl rfl rfl ?_
 obtain ⟨x120, hx120⟩ : ∃ x, (O107)[0]? = some x := ⟨_, List.getElem?_eq_getElem (by first | omega | (simp only [zll] <;> omega) | (simp <;> omega))⟩
 have hlx_x120 := (hO107 x120 (List.mem_of_getElem? hx120)).2
 refine l_q rfl rfl (q_load1 rfl (by kernel_rfl) (SlG.cell (hS117.owG (i := 0) rfl) (Gle.refl _) (row_at hx120 (c := lo) (m := 5) (fun _ => rfl) (j := 0) rfl))) ?_
 have hl1 : Lr.mk 6 nd (((pickN x68.nd 16) : Nat) : Int) nd [] = x120.l := Option.some.inj (los_at eO107 hx120)
 have hlk : x120.l.k = 6 := by rw [← hl1]
 have hlt : x120.l.t = (((pickN x68.nd 16) : Nat) : Int) := by rw [← hl1]
 refine l_on rfl rfl rfl ?_
 refine l_q rfl rfl (q_neq rfl rfl) ?_
 refine l_on rfl rfl rfl ?_
 refine l_q rfl rfl (q_moveB rfl) ?_
 refine g_splitL (t := 150) rfl (fun hg121 => ?_) (fun hg121 => ?_)
 have hg121b := hg121
 try simp only [zbb] at hg121
 exfalso; first | omega | exact hg121 trivial | exact absurd hg121 (by decide)
 have hg121b := hg121
 try simp only [zbb] at hg121
 refine l_on rfl rfl hg121b ?_
 refine l_q rfl rfl (q_moveS rfl) ?_
 refine l_on rfl rfl hg121b ?_
 refine l_q rfl rfl (q_ixG (e := 42) (m := 5) (j := 0) rfl rfl (by kernel_rfl) (by kernel_rfl) (by first | rfl | omega) (by omega) (hS117.owG (i := 0) rfl) (by rw [rows_len (c := lo) (m := 5) (fun _ => rfl)]; first | omega | (simp only [zll] <;> omega))) ?_
 refine l_on rfl rfl hg121b ?_
 refine l_q rfl rfl (q_fieldG (ft := 3) (o := 2) rfl (by kernel_rfl)) ?_
 refine l_on rfl rfl hg121b ?_
 refine l_q rfl rfl (q_load1 rfl (by kernel_rfl) (SlG.cell (hS117.owG (i := 0) rfl) (Gle.refl _) (row_at hx120 (c := lo) (m := 5) (fun _ => rfl) (j := 2) rfl))) ?_
 refine l_on rfl rfl hg121b ?_
 refine l_q rfl rfl (q_moveI rfl) ?_
 refine l_on rfl rfl hg121b ?_
 refine l_q rfl rfl (q_neq rfl rfl) ?_
 refine l_on rfl rfl rfl ?_
 refine l_q rfl rfl (q_pickF rfl hg121b rfl) ?_
 refine l_on rfl rfl rfl ?_
 refine l_q rfl rfl (q_pickT rfl rfl rfl) ?_
 refine l_q rfl rfl (q_pickF rfl rfl rfl) ?_
 refine l_q rfl rfl (q_moveB rfl) ?_
 refine g_splitL (t := 160) rfl (fun hg122 => ?_) (fun hg122 => ?_)
 have hg122b := hg122
 try simp only [zbb] at hg122
 exfalso; first | omega | exact hg122 trivial | exact absurd hg122 (by decide)
 have hg122b := hg122
 try simp only [zbb] at hg122
 refine l_on rfl rfl hg122b ?_
 refine l_q rfl rfl (q_moveP rfl) ?_
 refine l_on rfl rfl hg122b ?_
 refine l_q rfl rfl (q_moveI rfl) ?_
 refine l_on rfl rfl hg122b ?_
 refine l_e rfl (fun K hK => ?_)
 have hS124 := hS117.fr2; clear hS117
 have hS125 := hS124.fr2; clear hS124
 refine e_call (by kernel_rfl) (state_any k7 kw7 nd 0 (0 + 1) mb7 none [] 0 [] hT107 g107 LOk.nil (by first | omega | (simp only [zll] <;> omega)) nd _ (St.begin (Γ := [_, _]) hS125)) rfl (after_M (Γ1 := [_, _]) hS125 (fun v123 G123 w123 hv123 hS123 => ?_))
 clear hS125
 obtain ⟨a123, rfl, rfl, hE123⟩ := hv123
 have hS126 : St _ _ [_, .fz g107, _, _, _, _, _] _ := hS123; clear hS123
 refine hK _ _ ?_; clear hK K
 have ha123 : a123 = 0 := hE123.symm.trans (sta_nil _)
 subst ha123
 refine l_on rfl rfl hg122b ?_
 refine l_q rfl rfl (q_neq rfl rfl) ?_
 refine l_q rfl rfl (q_pickF rfl hg122b rfl) ?_
 refine l_nil ?_
 refine hK119 _ _ ?_
 refine c_condF rfl (by decide) ?_
 refine wp_skip ?_
 refine hK66 _ _ ?_
 refine wp_region_lit ?_
 refine l_q rfl rfl (q_moveI rfl) ?_
 refine l_q rfl rfl (q_addx rfl rfl (by first | decide | omega) (by first | decide | omega)) ?_
 refine l_q rfl rfl (q_assignI rfl) ?_
 refine l_nil ?_
 have hS128 := hS126.fr6; clear hS126
 have hS129 := hS128.fr2; clear hS128
 have hS130 := hS129.fr5; clear hS129
 have hS131 := hS130.fr5; clear hS130
 have hS132 := hS131.fr4; clear hS131
 have hS133 : St _ _ [_, _, _, .fz g107, _] _ := hS132.only 5; clear hS132
 refine hK61 _ _ (came (⟨(i + 1), wa107, wc107, rs107, da107, dc107, l, s, g107⟩) (by repeat' (first | exact Agree.refl _ _ | refine Agree.up ?_ rfl | refine Agree.hav2 ?_ rfl | refine Agree.ups2 ?_ rfl)) (by repeat' (first | exact trivial | refine ⟨by first | rfl | exact int_succ _ | assumption, ?_⟩)) ?_)
 exact ⟨⟨hS133, (by show i + 1 ≤ vs.length; omega), hg0.trans (by first | exact hle107 | skip), hrs107, (by show rs107.length ≤ 3 + (i + 1); omega), hl, hsl, hll⟩, by (show vs.length - (i + 1) < vs.length - i); omega⟩
 rw [hkk]
 refine l_q rfl rfl (q_assignI rfl) ?_
 refine l_nil ?_
 refine hK73 _ _ ?_
 refine wp_seq_k (fun K134 hK134 => ?_)
 refine wp_seq_k (fun K135 hK135 => ?_)
 refine wp_region_lit ?_
 refine l_q rfl rfl (q_fieldAddr (ft := 4) (o := 2) rfl (by kernel_rfl)) ?_
 refine l_q rfl rfl (q_load1 rfl (by kernel_rfl) (hS74.cell (i := 0) rfl rfl)) ?_
 refine l_nil ?_
 refine hK135 _ _ ?_
 refine c_cond rfl (fun hc136 => ?_) (fun hc136 => ?_)
 have hc136b := hc136
 try simp only [zbb] at hc136
 refine wp_region_lit ?_
 refine l_q rfl rfl (q_assignI rfl) ?_
 refine l_nil ?_
 refine hK134 _ _ ?_
 refine wp_seq_k (fun K137 hK137 => ?_)
 refine wp_region_lit ?_
 refine l_q rfl rfl (q_moveP rfl) ?_
 refine l_q rfl rfl (q_moveI rfl) ?_
 refine l_q rfl rfl (q_moveI rfl) ?_
 refine l_q rfl rfl (q_moveI rfl) ?_
 refine l_q rfl rfl (q_moveI rfl) ?_
 refine l_q rfl rfl (q_build (ps := [(0, 1), (1, 1), (2, 1), (3, 1), (4, 1)]) (zv := .agg #[.int .i64 0, .int .i64 0, .int .i64 0, .int .i64 0, .slice none 0 0]) (by kernel_rfl) (by kernel_rfl) rfl (by repeat' (first | exact trivial | refine ⟨fun _ => by first | rfl | assumption | exact one_if (by assumption), ?_⟩ | refine ⟨fun ⟨_, h⟩ => by simp at h, ?_⟩)) rfl) ?_
 refine l_e rfl (fun K hK => ?_)
 have hS139 := hS74.fr4; clear hS74
 have hS140 := hS139.fr4; clear hS139
 have hS141 := hS140.fr4; clear hS140
 have hS142 := hS141.fr4; clear hS141
 refine e_call (by kernel_rfl) (hear_any k7 kw7 nd 0 (0 + 1) mb7 none [] 0 [] TOk.nil g LOk.nil (by first | omega | (simp only [zll] <;> omega)) k4 wa wc rs da dc l 0 s (by first | omega | (simp only [zll] <;> omega)) hl (by first | omega | (simp only [zll] <;> omega)) (by first | omega | (simp only [zll] <;> omega)) hR (Lr.mk (8 : Int) (((pickN x68.nd 16) : Nat) : Int) nd nd []) none 0 0 rfl (by first | omega | (simp only [zll] <;> omega)) _ _ ((fun _ _ e => by cases e) : Rog [_, _, _, _] _ (fun _ => none)) SlG.nil (St.begin (Γ := [_, _, _, _]) hS142)) rfl (after_M (Γ1 := [_, _, _, _]) hS142 (fun v138 G138 w138 hv138 hS138 => ?_))
 clear hS142
 obtain ⟨a138, oa138, oc138, O138, T138, wa138, wc138, rs138, da138, dc138, l138, s138, g138, rfl, rfl, hle138, hO138, hT138, hE138, hrs138, hrl138, hGr138⟩ := hv138
 have hS143 : St _ _ [co k7 kw7 nd 0 (0 + 1) mb7 oa138 O138 oc138 T138, wk kw7 k4 wa138 wc138 rs138, dk k4 da138 dc138 l138 0 s138, .fz g138, _, _] _ := hS138; clear hS138
 have hGs138 := hGr138.2.1; have hGl138 := hGr138.2.2.1; have hGm138 := hGr138.2.2.2
 refine hK _ _ ?_; clear hK K
 obtain ⟨ea138, eT138, eO138, el138, es138⟩ := val5 hE138 (hear_none1 (m := (pickN x68.nd 16)) (by decide) (by omega) hnd _ _ _)
 subst ea138
 have eN138 := abs_nil eT138
 subst eN138
 have el138' := el138.symm; have es138' := es138.symm; subst el138' es138'
 have eO138 : O138.map Lo.l = [Lr.mk 6 nd (((pickN x68.nd 16) : Nat) : Int) nd []] := eO138
 have hol138 : O138.length = 1 := los_len eO138
 refine l_nil ?_
 refine hK137 _ _ ?_
 refine wp_seq_k (fun K144 hK144 => ?_)
 refine wp_region_lit ?_
 refine l_q rfl rfl (q_moveP rfl) ?_
 refine l_e rfl (fun K hK => ?_)
 have hS146 := hS143.fr3; clear hS143
 have hS147 := hS146.fr1; clear hS146
 refine e_call (by kernel_rfl) (out_ok k7 kw7 nd 0 (0 + 1) mb7 oa138 O138 oc138 [] hT138 g138 hO138 (by first | omega | (simp only [zll] <;> omega)) _ (St.begin (Γ := [_, _]) hS147)) rfl (after_M (Γ1 := [_, _]) hS147 (fun v145 G145 w145 hv145 hS145 => ?_))
 clear hS147
 obtain ⟨rfl, rfl⟩ := hv145
 have hS148 : St _ _ [.ow 42 5 oa138 O138.length oc138 (List.flatMap lo O138), _, .fz g138, _, dk k4 da138 dc138 l 0 s, _, _] _ := hS145; clear hS145
 refine hK _ _ ?_; clear hK K
 refine l_q rfl rfl (q_assignS rfl) ?_
 refine l_nil ?_
 refine hK144 _ _ ?_
 refine wp_seq_k (fun K149 hK149 => ?_)
 refine wp_region_lit ?_
 refine l_q rfl rfl (q_moveI rfl) ?_
 refine l_q rfl rfl (q_eql rfl rfl) ?_
 refine l_q rfl rfl (q_moveB rfl) ?_
 refine l_on rfl rfl (by decide) ?_
 refine l_q rfl rfl (q_moveI rfl) ?_
 refine l_on rfl rfl (by decide) ?_
 refine l_q rfl rfl (q_eql rfl rfl) ?_
 refine l_q rfl rfl (q_pickF rfl (by decide) rfl) ?_
 refine l_q rfl rfl (q_assignB rfl) ?_
 refine l_nil ?_
 refine hK149 _ _ ?_
 refine wp_seq_k (fun K150 hK150 => ?_)
 refine wp_region_lit ?_
 refine l_q rfl rfl (q_moveB rfl) ?_
 refine l_q rfl rfl (q_moveS rfl) ?_
 refine l_q rfl rfl (q_lenSl (e := 42) rfl (by kernel_rfl)) ?_
 refine l_q rfl rfl (q_bc (b := true) (decide_eq_true (by omega)) (q_eql rfl rfl)) ?_
 refine l_q rfl rfl (q_bool_neq rfl rfl (by kernel_rfl)) ?_
 refine l_q rfl rfl (q_moveB rfl) ?_
 refine l_on rfl rfl rfl ?_
 refine l_q rfl rfl (q_moveS rfl) ?_
 refine l_on rfl rfl rfl ?_
 refine l_q rfl rfl (q_lenSl (e := 42) rfl (by kernel_rfl)) ?_
 refine l_on rfl rfl rfl ?_
 refine l_q rfl rfl (q_bc (b := false) (decide_eq_false (by omega)) (q_gtr rfl rfl)) ?_
 refine l_q rfl rfl (q_pickF rfl rfl rfl) ?_
 refine l_q rfl rfl (q_moveB rfl) ?_
 refine l_on rfl rfl rfl ?_
 refine l_q rfl rfl (q_moveB rfl) ?_
 refine l_on rfl rfl rfl ?_
 refine l_q rfl rfl (q_moveB rfl) ?_
 refine l_on rfl rfl (by decide) ?_
 refine l_q rfl rfl (q_moveS rfl) ?_
 refine l_on rfl rfl (by decide) ?_
 refine l_q rfl rfl (q_ixG (e := 42) (m := 5) (j := 0) rfl rfl (by kernel_rfl) (by kernel_rfl) (by first | rfl | omega) (by omega) (hS148.owG (i := 0) rfl) (by rw [rows_len (c := lo) (m := 5) (fun _ => rfl)]; first | omega | (simp only [zll] <;> omega))) ?_
 refine l_on rfl rfl (by decide) ?_
 refine l_q rfl rfl (q_fieldG (ft := 40) (o := 0) rfl (by kernel_rfl)) ?_
 refine l_on rfl rfl (by decide) ?_
 obtain ⟨x151, hx151⟩ : ∃ x, (O138)[0]? = some x := ⟨_, List.getElem?_eq_getElem (by first | omega | (simp only [zll] <;> omega) | (simp <;> omega))⟩
 have hlx_x151 := (hO138 x151 (List.mem_of_getElem? hx151)).2
 refine l_q rfl rfl (q_load1 rfl (by kernel_rfl) (SlG.cell (hS148.owG (i := 0) rfl) (Gle.refl _) (row_at hx151 (c := lo) (m := 5) (fun _ => rfl) (j := 0) rfl))) ?_
 have hl1 : Lr.mk 6 nd (((pickN x68.nd 16) : Nat) : Int) nd [] = x151.l := Option.some.inj (los_at eO138 hx151)
 have hlk : x151.l.k = 6 := by rw [← hl1]
 have hlt : x151.l.t = (((pickN x68.nd 16) : Nat) : Int) := by rw [← hl1]
 refine l_on rfl rfl (by decide) ?_
 refine l_q rfl rfl (q_neq rfl rfl) ?_
 refine l_on rfl rfl (by decide) ?_
 refine l_q rfl rfl (q_moveB rfl) ?_
 refine g_splitL (t := 150) rfl (fun hg152 => ?_) (fun hg152 => ?_)
 have hg152b := hg152
 try simp only [zbb] at hg152
 exfalso; first | omega | exact hg152 trivial | exact absurd hg152 (by decide)
 have hg152b := hg152
 try simp only [zbb] at hg152
 refine l_on rfl rfl hg152b ?_
 refine l_q rfl rfl (q_moveS rfl) ?_
 refine l_on rfl rfl hg152b ?_
 refine l_q rfl rfl (q_ixG (e := 42) (m := 5) (j := 0) rfl rfl (by kernel_rfl) (by kernel_rfl) (by first | rfl | omega) (by omega) (hS148.owG (i := 0) rfl) (by rw [rows_len (c := lo) (m := 5) (fun _ => rfl)]; first | omega | (simp only [zll] <;> omega))) ?_
 refine l_on rfl rfl hg152b ?_
 refine l_q rfl rfl (q_fieldG (ft := 3) (o := 2) rfl (by kernel_rfl)) ?_
 refine l_on rfl rfl hg152b ?_
 refine l_q rfl rfl (q_load1 rfl (by kernel_rfl) (SlG.cell (hS148.owG (i := 0) rfl) (Gle.refl _) (row_at hx151 (c := lo) (m := 5) (fun _ => rfl) (j := 2) rfl))) ?_
 refine l_on rfl rfl hg152b ?_
 refine l_q rfl rfl (q_moveI rfl) ?_
 refine l_on rfl rfl hg152b ?_
 refine l_q rfl rfl (q_neq rfl rfl) ?_
 refine l_on rfl rfl (by decide) ?_
 refine l_q rfl rfl (q_pickF rfl hg152b rfl) ?_
 refine l_on rfl rfl rfl ?_
 refine l_q rfl rfl (q_pickT rfl (by decide) rfl) ?_
 refine l_q rfl rfl (q_pickF rfl rfl rfl) ?_
 refine l_q rfl rfl (q_moveB rfl) ?_
 refine g_splitL (t := 160) rfl (fun hg153 => ?_) (fun hg153 => ?_)
 have hg153b := hg153
 try simp only [zbb] at hg153
 exfalso; first | omega | exact hg153 trivial | exact absurd hg153 (by decide)
 have hg153b := hg153
 try simp only [zbb] at hg153
 refine l_on rfl rfl hg153b ?_
 refine l_q rfl rfl (q_moveP rfl) ?_
 refine l_on rfl rfl hg153b ?_
 refine l_q rfl rfl (q_moveI rfl) ?_
 refine l_on rfl rfl hg153b ?_
 refine l_e rfl (fun K hK => ?_)
 have hS155 := hS148.fr2; clear hS148
 have hS156 := hS155.fr2; clear hS155
 refine e_call (by kernel_rfl) (state_any k7 kw7 nd 0 (0 + 1) mb7 none [] 0 [] hT138 g138 LOk.nil (by first | omega | (simp only [zll] <;> omega)) nd _ (St.begin (Γ := [_, _]) hS156)) rfl (after_M (Γ1 := [_, _]) hS156 (fun v154 G154 w154 hv154 hS154 => ?_))
 clear hS156
 obtain ⟨a154, rfl, rfl, hE154⟩ := hv154
 have hS157 : St _ _ [_, .fz g138, _, _, _, _, _] _ := hS154; clear hS154
 refine hK _ _ ?_; clear hK K
 have ha154 : a154 = 0 := hE154.symm.trans (sta_nil _)
 subst ha154
 refine l_on rfl rfl hg153b ?_
 refine l_q rfl rfl (q_neq rfl rfl) ?_
 refine l_q rfl rfl (q_pickF rfl hg153b rfl) ?_
 refine l_nil ?_
 refine hK150 _ _ ?_
 refine c_condF rfl (by decide) ?_
 refine wp_skip ?_
 refine hK66 _ _ ?_
 refine wp_region_lit ?_
 refine l_q rfl rfl (q_moveI rfl) ?_
 refine l_q rfl rfl (q_addx rfl rfl (by first | decide | omega) (by first | decide | omega)) ?_
 refine l_q rfl rfl (q_assignI rfl) ?_
 refine l_nil ?_
 have hS159 := hS157.fr6; clear hS157
 have hS160 := hS159.fr2; clear hS159
 have hS161 := hS160.fr5; clear hS160
 have hS162 := hS161.fr5; clear hS161
 have hS163 := hS162.fr4; clear hS162
 have hS164 : St _ _ [_, _, _, .fz g138, _] _ := hS163.only 5; clear hS163
 refine hK61 _ _ (came (⟨(i + 1), wa138, wc138, rs138, da138, dc138, l, s, g138⟩) (by repeat' (first | exact Agree.refl _ _ | refine Agree.up ?_ rfl | refine Agree.hav2 ?_ rfl | refine Agree.ups2 ?_ rfl)) (by repeat' (first | exact trivial | refine ⟨by first | rfl | exact int_succ _ | assumption, ?_⟩)) ?_)
 exact ⟨⟨hS164, (by show i + 1 ≤ vs.length; omega), hg0.trans (by first | exact hle138 | skip), hrs138, (by show rs138.length ≤ 3 + (i + 1); omega), hl, hsl, hll⟩, by (show vs.length - (i + 1) < vs.length - i); omega⟩
 have hc136b := hc136
 try simp only [zbb] at hc136
 refine wp_skip ?_
 refine hK134 _ _ ?_
 refine wp_seq_k (fun K165 hK165 => ?_)
 refine wp_region_lit ?_
 refine l_q rfl rfl (q_moveP rfl) ?_
 refine l_q rfl rfl (q_moveI rfl) ?_
 refine l_q rfl rfl (q_moveI rfl) ?_
 refine l_q rfl rfl (q_moveI rfl) ?_
 refine l_q rfl rfl (q_moveI rfl) ?_
 refine l_q rfl rfl (q_build (ps := [(0, 1), (1, 1), (2, 1), (3, 1), (4, 1)]) (zv := .agg #[.int .i64 0, .int .i64 0, .int .i64 0, .int .i64 0, .slice none 0 0]) (by kernel_rfl) (by kernel_rfl) rfl (by repeat' (first | exact trivial | refine ⟨fun _ => by first | rfl | assumption | exact one_if (by assumption), ?_⟩ | refine ⟨fun ⟨_, h⟩ => by simp at h, ?_⟩)) rfl) ?_
 refine l_e rfl (fun K hK => ?_)
 have hS167 := hS74.fr4; clear hS74
 have hS168 := hS167.fr4; clear hS167
 have hS169 := hS168.fr4; clear hS168
 have hS170 := hS169.fr4; clear hS169
 refine e_call (by kernel_rfl) (hear_any k7 kw7 nd 0 (0 + 1) mb7 none [] 0 [] TOk.nil g LOk.nil (by first | omega | (simp only [zll] <;> omega)) k4 wa wc rs da dc l 0 s (by first | omega | (simp only [zll] <;> omega)) hl (by first | omega | (simp only [zll] <;> omega)) (by first | omega | (simp only [zll] <;> omega)) hR (Lr.mk (4 : Int) (((pickN x68.nd 16) : Nat) : Int) nd nd []) none 0 0 rfl (by first | omega | (simp only [zll] <;> omega)) _ _ ((fun _ _ e => by cases e) : Rog [_, _, _, _] _ (fun _ => none)) SlG.nil (St.begin (Γ := [_, _, _, _]) hS170)) rfl (after_M (Γ1 := [_, _, _, _]) hS170 (fun v166 G166 w166 hv166 hS166 => ?_))
 clear hS170
 obtain ⟨a166, oa166, oc166, O166, T166, wa166, wc166, rs166, da166, dc166, l166, s166, g166, rfl, rfl, hle166, hO166, hT166, hE166, hrs166, hrl166, hGr166⟩ := hv166
 have hS171 : St _ _ [co k7 kw7 nd 0 (0 + 1) mb7 oa166 O166 oc166 T166, wk kw7 k4 wa166 wc166 rs166, dk k4 da166 dc166 l166 0 s166, .fz g166, _, _] _ := hS166; clear hS166
 have hGs166 := hGr166.2.1; have hGl166 := hGr166.2.2.1; have hGm166 := hGr166.2.2.2
 refine hK _ _ ?_; clear hK K
 obtain ⟨ea166, eT166, eO166, el166, es166⟩ := val5 hE166 (hear_none0 (m := (pickN x68.nd 16)) (by decide) (by decide) (by omega) hnd _ _ _)
 subst ea166
 have eN166 := abs_nil eT166
 subst eN166
 have eM166 := los_nil eO166
 subst eM166
 have el166' := el166.symm; have es166' := es166.symm; subst el166' es166'
 refine l_nil ?_
 refine hK165 _ _ ?_
 refine wp_seq_k (fun K172 hK172 => ?_)
 refine wp_region_lit ?_
 refine l_q rfl rfl (q_moveP rfl) ?_
 refine l_e rfl (fun K hK => ?_)
 have hS174 := hS171.fr3; clear hS171
 have hS175 := hS174.fr1; clear hS174
 refine e_call (by kernel_rfl) (out_ok k7 kw7 nd 0 (0 + 1) mb7 oa166 [] oc166 [] hT166 g166 hO166 (by first | omega | (simp only [zll] <;> omega)) _ (St.begin (Γ := [_, _]) hS175)) rfl (after_M (Γ1 := [_, _]) hS175 (fun v173 G173 w173 hv173 hS173 => ?_))
 clear hS175
 obtain ⟨rfl, rfl⟩ := hv173
 have hS176 : St _ _ [.ow 42 5 oa166 ([].length) oc166 (List.flatMap lo []), _, .fz g166, _, dk k4 da166 dc166 l 0 s, _, _] _ := hS173; clear hS173
 refine hK _ _ ?_; clear hK K
 refine l_q rfl rfl (q_assignS rfl) ?_
 refine l_nil ?_
 refine hK172 _ _ ?_
 refine wp_seq_k (fun K177 hK177 => ?_)
 refine wp_region_lit ?_
 refine l_q rfl rfl (q_moveI rfl) ?_
 refine l_q rfl rfl (q_eql rfl rfl) ?_
 refine l_q rfl rfl (q_moveB rfl) ?_
 refine l_on rfl rfl (by decide) ?_
 refine l_q rfl rfl (q_moveI rfl) ?_
 refine l_on rfl rfl (by decide) ?_
 refine l_q rfl rfl (q_eql rfl rfl) ?_
 refine l_q rfl rfl (q_pickF rfl (by decide) rfl) ?_
 refine l_q rfl rfl (q_assignB rfl) ?_
 refine l_nil ?_
 refine hK177 _ _ ?_
 refine wp_seq_k (fun K178 hK178 => ?_)
 refine wp_region_lit ?_
 refine l_q rfl rfl (q_moveB rfl) ?_
 refine l_q rfl rfl (q_moveS rfl) ?_
 refine l_q rfl rfl (q_lenSl (e := 42) rfl (by kernel_rfl)) ?_
 refine l_q rfl rfl (q_bc (b := false) (decide_eq_false (by decide)) (q_eql rfl rfl)) ?_
 refine l_q rfl rfl (q_bool_neq rfl rfl (by kernel_rfl)) ?_
 refine l_q rfl rfl (q_moveB rfl) ?_
 refine l_on rfl rfl rfl ?_
 refine l_q rfl rfl (q_moveS rfl) ?_
 refine l_on rfl rfl rfl ?_
 refine l_q rfl rfl (q_lenSl (e := 42) rfl (by kernel_rfl)) ?_
 refine l_on rfl rfl rfl ?_
 refine l_q rfl rfl (q_bc (b := false) (decide_eq_false (by decide)) (q_gtr rfl rfl)) ?_
 refine l_q rfl rfl (q_pickF rfl rfl rfl) ?_
 refine l_q rfl rfl (q_moveB rfl) ?_
 refine l_on rfl rfl rfl ?_
 refine l_q rfl rfl (q_moveB rfl) ?_
 refine l_on rfl rfl rfl ?_
 refine l_q rfl rfl (q_moveB rfl) ?_
 refine l_off rfl rfl rfl (by decide) ?_
 refine l_off rfl rfl rfl (by decide) ?_
 refine l_off rfl rfl rfl (by decide) ?_
 refine l_off rfl rfl rfl (by decide) ?_
 refine l_off rfl rfl rfl (by decide) ?_
 refine l_off rfl rfl rfl (by decide) ?_
 refine l_offN rfl rfl rfl ?_
 refine l_offN rfl rfl rfl ?_
 refine l_offN rfl rfl rfl ?_
 refine l_offN rfl rfl rfl ?_
 refine l_offN rfl rfl rfl ?_
 refine l_offN rfl rfl rfl ?_
 refine l_off rfl rfl rfl (by decide) ?_
 refine l_on rfl rfl rfl ?_
 refine l_q rfl rfl (q_pickF rfl (by decide) rfl) ?_
 refine l_q rfl rfl (q_pickF rfl rfl rfl) ?_
 refine l_q rfl rfl (q_moveB rfl) ?_
 refine l_on rfl rfl rfl ?_
 refine l_q rfl rfl (q_moveP rfl) ?_
 refine l_on rfl rfl rfl ?_
 refine l_q rfl rfl (q_moveI rfl) ?_
 refine l_on rfl rfl rfl ?_
 refine l_e rfl (fun K hK => ?_)
 have hS180 := hS176.fr2; clear hS176
 have hS181 := hS180.fr2; clear hS180
 refine e_call (by kernel_rfl) (state_any k7 kw7 nd 0 (0 + 1) mb7 none [] 0 [] hT166 g166 LOk.nil (by first | omega | (simp only [zll] <;> omega)) nd _ (St.begin (Γ := [_, _]) hS181)) rfl (after_M (Γ1 := [_, _]) hS181 (fun v179 G179 w179 hv179 hS179 => ?_))
 clear hS181
 obtain ⟨a179, rfl, rfl, hE179⟩ := hv179
 have hS182 : St _ _ [_, .fz g166, _, _, _, _, _] _ := hS179; clear hS179
 refine hK _ _ ?_; clear hK K
 have ha179 : a179 = 0 := hE179.symm.trans (sta_nil _)
 subst ha179
 refine l_on rfl rfl rfl ?_
 refine l_q rfl rfl (q_neq rfl rfl) ?_
 refine l_q rfl rfl (q_pickF rfl rfl rfl) ?_
 refine l_nil ?_
 refine hK178 _ _ ?_
 refine c_condF rfl (by decide) ?_
 refine wp_skip ?_
 refine hK66 _ _ ?_
 refine wp_region_lit ?_
 refine l_q rfl rfl (q_moveI rfl) ?_
 refine l_q rfl rfl (q_addx rfl rfl (by first | decide | omega) (by first | decide | omega)) ?_
 refine l_q rfl rfl (q_assignI rfl) ?_
 refine l_nil ?_
 have hS184 := hS182.fr6; clear hS182
 have hS185 := hS184.fr2; clear hS184
 have hS186 := hS185.fr5; clear hS185
 have hS187 := hS186.fr5; clear hS186
 have hS188 := hS187.fr4; clear hS187
 have hS189 : St _ _ [_, _, _, .fz g166, _] _ := hS188.only 5; clear hS188
 refine hK61 _ _ (came (⟨(i + 1), wa166, wc166, rs166, da166, dc166, l, s, g166⟩) (by repeat' (first | exact Agree.refl _ _ | refine Agree.up ?_ rfl | refine Agree.hav2 ?_ rfl | refine Agree.ups2 ?_ rfl)) (by repeat' (first | exact trivial | refine ⟨by first | rfl | exact int_succ _ | assumption, ?_⟩)) ?_)
 exact ⟨⟨hS189, (by show i + 1 ≤ vs.length; omega), hg0.trans (by first | exact hle166 | skip), hrs166, (by show rs166.length ≤ 3 + (i + 1); omega), hl, hsl, hll⟩, by (show vs.length - (i + 1) < vs.length - i); omega⟩
 rw [hkk]
 refine l_q rfl rfl (q_assignI rfl) ?_
 refine l_nil ?_
 refine hK73 _ _ ?_
 refine wp_seq_k (fun K190 hK190 => ?_)
 refine wp_seq_k (fun K191 hK191 => ?_)
 refine wp_region_lit ?_
 refine l_q rfl rfl (q_fieldAddr (ft := 4) (o := 2) rfl (by kernel_rfl)) ?_
 refine l_q rfl rfl (q_load1 rfl (by kernel_rfl) (hS74.cell (i := 0) rfl rfl)) ?_
 refine l_nil ?_
 refine hK191 _ _ ?_
 refine c_cond rfl (fun hc192 => ?_) (fun hc192 => ?_)
 have hc192b := hc192
 try simp only [zbb] at hc192
 refine wp_region_lit ?_
 refine l_q rfl rfl (q_assignI rfl) ?_
 refine l_nil ?_
 refine hK190 _ _ ?_
 refine wp_seq_k (fun K193 hK193 => ?_)
 refine wp_region_lit ?_
 refine l_q rfl rfl (q_moveP rfl) ?_
 refine l_q rfl rfl (q_moveI rfl) ?_
 refine l_q rfl rfl (q_moveI rfl) ?_
 refine l_q rfl rfl (q_moveI rfl) ?_
 refine l_q rfl rfl (q_moveI rfl) ?_
 refine l_q rfl rfl (q_build (ps := [(0, 1), (1, 1), (2, 1), (3, 1), (4, 1)]) (zv := .agg #[.int .i64 0, .int .i64 0, .int .i64 0, .int .i64 0, .slice none 0 0]) (by kernel_rfl) (by kernel_rfl) rfl (by repeat' (first | exact trivial | refine ⟨fun _ => by first | rfl | assumption | exact one_if (by assumption), ?_⟩ | refine ⟨fun ⟨_, h⟩ => by simp at h, ?_⟩)) rfl) ?_
 refine l_e rfl (fun K hK => ?_)
 have hS195 := hS74.fr4; clear hS74
 have hS196 := hS195.fr4; clear hS195
 have hS197 := hS196.fr4; clear hS196
 have hS198 := hS197.fr4; clear hS197
 refine e_call (by kernel_rfl) (hear_any k7 kw7 nd 0 (0 + 1) mb7 none [] 0 [] TOk.nil g LOk.nil (by first | omega | (simp only [zll] <;> omega)) k4 wa wc rs da dc l 0 s (by first | omega | (simp only [zll] <;> omega)) hl (by first | omega | (simp only [zll] <;> omega)) (by first | omega | (simp only [zll] <;> omega)) hR (Lr.mk (8 : Int) (((pickN x68.nd 16) : Nat) : Int) nd nd []) none 0 0 rfl (by first | omega | (simp only [zll] <;> omega)) _ _ ((fun _ _ e => by cases e) : Rog [_, _, _, _] _ (fun _ => none)) SlG.nil (St.begin (Γ := [_, _, _, _]) hS198)) rfl (after_M (Γ1 := [_, _, _, _]) hS198 (fun v194 G194 w194 hv194 hS194 => ?_))
 clear hS198
 obtain ⟨a194, oa194, oc194, O194, T194, wa194, wc194, rs194, da194, dc194, l194, s194, g194, rfl, rfl, hle194, hO194, hT194, hE194, hrs194, hrl194, hGr194⟩ := hv194
 have hS199 : St _ _ [co k7 kw7 nd 0 (0 + 1) mb7 oa194 O194 oc194 T194, wk kw7 k4 wa194 wc194 rs194, dk k4 da194 dc194 l194 0 s194, .fz g194, _, _] _ := hS194; clear hS194
 have hGs194 := hGr194.2.1; have hGl194 := hGr194.2.2.1; have hGm194 := hGr194.2.2.2
 refine hK _ _ ?_; clear hK K
 obtain ⟨ea194, eT194, eO194, el194, es194⟩ := val5 hE194 (hear_none1 (m := (pickN x68.nd 16)) (by decide) (by omega) hnd _ _ _)
 subst ea194
 have eN194 := abs_nil eT194
 subst eN194
 have el194' := el194.symm; have es194' := es194.symm; subst el194' es194'
 have eO194 : O194.map Lo.l = [Lr.mk 6 nd (((pickN x68.nd 16) : Nat) : Int) nd []] := eO194
 have hol194 : O194.length = 1 := los_len eO194
 refine l_nil ?_
 refine hK193 _ _ ?_
 refine wp_seq_k (fun K200 hK200 => ?_)
 refine wp_region_lit ?_
 refine l_q rfl rfl (q_moveP rfl) ?_
 refine l_e rfl (fun K hK => ?_)
 have hS202 := hS199.fr3; clear hS199
 have hS203 := hS202.fr1; clear hS202
 refine e_call (by kernel_rfl) (out_ok k7 kw7 nd 0 (0 + 1) mb7 oa194 O194 oc194 [] hT194 g194 hO194 (by first | omega | (simp only [zll] <;> omega)) _ (St.begin (Γ := [_, _]) hS203)) rfl (after_M (Γ1 := [_, _]) hS203 (fun v201 G201 w201 hv201 hS201 => ?_))
 clear hS203
 obtain ⟨rfl, rfl⟩ := hv201
 have hS204 : St _ _ [.ow 42 5 oa194 O194.length oc194 (List.flatMap lo O194), _, .fz g194, _, dk k4 da194 dc194 l 0 s, _, _] _ := hS201; clear hS201
 refine hK _ _ ?_; clear hK K
 refine l_q rfl rfl (q_assignS rfl) ?_
 refine l_nil ?_
 refine hK200 _ _ ?_
 refine wp_seq_k (fun K205 hK205 => ?_)
 refine wp_region_lit ?_
 refine l_q rfl rfl (q_moveI rfl) ?_
 refine l_q rfl rfl (q_eql rfl rfl) ?_
 refine l_q rfl rfl (q_moveB rfl) ?_
 refine l_on rfl rfl (by decide) ?_
 refine l_q rfl rfl (q_moveI rfl) ?_
 refine l_on rfl rfl (by decide) ?_
 refine l_q rfl rfl (q_eql rfl rfl) ?_
 refine l_q rfl rfl (q_pickF rfl (by decide) rfl) ?_
 refine l_q rfl rfl (q_assignB rfl) ?_
 refine l_nil ?_
 refine hK205 _ _ ?_
 refine wp_seq_k (fun K206 hK206 => ?_)
 refine wp_region_lit ?_
 refine l_q rfl rfl (q_moveB rfl) ?_
 refine l_q rfl rfl (q_moveS rfl) ?_
 refine l_q rfl rfl (q_lenSl (e := 42) rfl (by kernel_rfl)) ?_
 refine l_q rfl rfl (q_bc (b := true) (decide_eq_true (by omega)) (q_eql rfl rfl)) ?_
 refine l_q rfl rfl (q_bool_neq rfl rfl (by kernel_rfl)) ?_
 refine l_q rfl rfl (q_moveB rfl) ?_
 refine l_on rfl rfl rfl ?_
 refine l_q rfl rfl (q_moveS rfl) ?_
 refine l_on rfl rfl rfl ?_
 refine l_q rfl rfl (q_lenSl (e := 42) rfl (by kernel_rfl)) ?_
 refine l_on rfl rfl rfl ?_
 refine l_q rfl rfl (q_bc (b := false) (decide_eq_false (by omega)) (q_gtr rfl rfl)) ?_
 refine l_q rfl rfl (q_pickF rfl rfl rfl) ?_
 refine l_q rfl rfl (q_moveB rfl) ?_
 refine l_on rfl rfl rfl ?_
 refine l_q rfl rfl (q_moveB rfl) ?_
 refine l_on rfl rfl rfl ?_
 refine l_q rfl rfl (q_moveB rfl) ?_
 refine l_on rfl rfl (by decide) ?_
 refine l_q rfl rfl (q_moveS rfl) ?_
 refine l_on rfl rfl (by decide) ?_
 refine l_q rfl rfl (q_ixG (e := 42) (m := 5) (j := 0) rfl rfl (by kernel_rfl) (by kernel_rfl) (by first | rfl | omega) (by omega) (hS204.owG (i := 0) rfl) (by rw [rows_len (c := lo) (m := 5) (fun _ => rfl)]; first | omega | (simp only [zll] <;> omega))) ?_
 refine l_on rfl rfl (by decide) ?_
 refine l_q rfl rfl (q_fieldG (ft := 40) (o := 0) rfl (by kernel_rfl)) ?_
 refine l_on rfl rfl (by decide) ?_
 obtain ⟨x207, hx207⟩ : ∃ x, (O194)[0]? = some x := ⟨_, List.getElem?_eq_getElem (by first | omega | (simp only [zll] <;> omega) | (simp <;> omega))⟩
 have hlx_x207 := (hO194 x207 (List.mem_of_getElem? hx207)).2
 refine l_q rfl rfl (q_load1 rfl (by kernel_rfl) (SlG.cell (hS204.owG (i := 0) rfl) (Gle.refl _) (row_at hx207 (c := lo) (m := 5) (fun _ => rfl) (j := 0) rfl))) ?_
 have hl1 : Lr.mk 6 nd (((pickN x68.nd 16) : Nat) : Int) nd [] = x207.l := Option.some.inj (los_at eO194 hx207)
 have hlk : x207.l.k = 6 := by rw [← hl1]
 have hlt : x207.l.t = (((pickN x68.nd 16) : Nat) : Int) := by rw [← hl1]
 refine l_on rfl rfl (by decide) ?_
 refine l_q rfl rfl (q_neq rfl rfl) ?_
 refine l_on rfl rfl (by decide) ?_
 refine l_q rfl rfl (q_moveB rfl) ?_
 refine g_splitL (t := 150) rfl (fun hg208 => ?_) (fun hg208 => ?_)
 have hg208b := hg208
 try simp only [zbb] at hg208
 exfalso; first | omega | exact hg208 trivial | exact absurd hg208 (by decide)
 have hg208b := hg208
 try simp only [zbb] at hg208
 refine l_on rfl rfl hg208b ?_
 refine l_q rfl rfl (q_moveS rfl) ?_
 refine l_on rfl rfl hg208b ?_
 refine l_q rfl rfl (q_ixG (e := 42) (m := 5) (j := 0) rfl rfl (by kernel_rfl) (by kernel_rfl) (by first | rfl | omega) (by omega) (hS204.owG (i := 0) rfl) (by rw [rows_len (c := lo) (m := 5) (fun _ => rfl)]; first | omega | (simp only [zll] <;> omega))) ?_
 refine l_on rfl rfl hg208b ?_
 refine l_q rfl rfl (q_fieldG (ft := 3) (o := 2) rfl (by kernel_rfl)) ?_
 refine l_on rfl rfl hg208b ?_
 refine l_q rfl rfl (q_load1 rfl (by kernel_rfl) (SlG.cell (hS204.owG (i := 0) rfl) (Gle.refl _) (row_at hx207 (c := lo) (m := 5) (fun _ => rfl) (j := 2) rfl))) ?_
 refine l_on rfl rfl hg208b ?_
 refine l_q rfl rfl (q_moveI rfl) ?_
 refine l_on rfl rfl hg208b ?_
 refine l_q rfl rfl (q_neq rfl rfl) ?_
 refine l_on rfl rfl (by decide) ?_
 refine l_q rfl rfl (q_pickF rfl hg208b rfl) ?_
 refine l_on rfl rfl rfl ?_
 refine l_q rfl rfl (q_pickT rfl (by decide) rfl) ?_
 refine l_q rfl rfl (q_pickF rfl rfl rfl) ?_
 refine l_q rfl rfl (q_moveB rfl) ?_
 refine g_splitL (t := 160) rfl (fun hg209 => ?_) (fun hg209 => ?_)
 have hg209b := hg209
 try simp only [zbb] at hg209
 exfalso; first | omega | exact hg209 trivial | exact absurd hg209 (by decide)
 have hg209b := hg209
 try simp only [zbb] at hg209
 refine l_on rfl rfl hg209b ?_
 refine l_q rfl rfl (q_moveP rfl) ?_
 refine l_on rfl rfl hg209b ?_
 refine l_q rfl rfl (q_moveI rfl) ?_
 refine l_on rfl rfl hg209b ?_
 refine l_e rfl (fun K hK => ?_)
 have hS211 := hS204.fr2; clear hS204
 have hS212 := hS211.fr2; clear hS211
 refine e_call (by kernel_rfl) (state_any k7 kw7 nd 0 (0 + 1) mb7 none [] 0 [] hT194 g194 LOk.nil (by first | omega | (simp only [zll] <;> omega)) nd _ (St.begin (Γ := [_, _]) hS212)) rfl (after_M (Γ1 := [_, _]) hS212 (fun v210 G210 w210 hv210 hS210 => ?_))
 clear hS212
 obtain ⟨a210, rfl, rfl, hE210⟩ := hv210
 have hS213 : St _ _ [_, .fz g194, _, _, _, _, _] _ := hS210; clear hS210
 refine hK _ _ ?_; clear hK K
 have ha210 : a210 = 0 := hE210.symm.trans (sta_nil _)
 subst ha210
 refine l_on rfl rfl hg209b ?_
 refine l_q rfl rfl (q_neq rfl rfl) ?_
 refine l_q rfl rfl (q_pickF rfl hg209b rfl) ?_
 refine l_nil ?_
 refine hK206 _ _ ?_
 refine c_condF rfl (by decide) ?_
 refine wp_skip ?_
 refine hK66 _ _ ?_
 refine wp_region_lit ?_
 refine l_q rfl rfl (q_moveI rfl) ?_
 refine l_q rfl rfl (q_addx rfl rfl (by first | decide | omega) (by first | decide | omega)) ?_
 refine l_q rfl rfl (q_assignI rfl) ?_
 refine l_nil ?_
 have hS215 := hS213.fr6; clear hS213
 have hS216 := hS215.fr2; clear hS215
 have hS217 := hS216.fr5; clear hS216
 have hS218 := hS217.fr5; clear hS217
 have hS219 := hS218.fr4; clear hS218
 have hS220 : St _ _ [_, _, _, .fz g194, _] _ := hS219.only 5; clear hS219
 refine hK61 _ _ (came (⟨(i + 1), wa194, wc194, rs194, da194, dc194, l, s, g194⟩) (by repeat' (first | exact Agree.refl _ _ | refine Agree.up ?_ rfl | refine Agree.hav2 ?_ rfl | refine Agree.ups2 ?_ rfl)) (by repeat' (first | exact trivial | refine ⟨by first | rfl | exact int_succ _ | assumption, ?_⟩)) ?_)
 exact ⟨⟨hS220, (by show i + 1 ≤ vs.length; omega), hg0.trans (by first | exact hle194 | skip), hrs194, (by show rs194.length ≤ 3 + (i + 1); omega), hl, hsl, hll⟩, by (show vs.length - (i + 1) < vs.length - i); omega⟩
 have hc192b := hc192
 try simp only [zbb] at hc192
 refine wp_skip ?_
 refine hK190 _ _ ?_
 refine wp_seq_k (fun K221 hK221 => ?_)
 refine wp_region_lit ?_
 refine l_q rfl rfl (q_moveP rfl) ?_
 refine l_q rfl rfl (q_moveI rfl) ?_
 refine l_q rfl rfl (q_moveI rfl) ?_
 refine l_q rfl rfl (q_moveI rfl) ?_
 refine l_q rfl rfl (q_moveI rfl) ?_
 refine l_q rfl rfl (q_build (ps := [(0, 1), (1, 1), (2, 1), (3, 1), (4, 1)]) (zv := .agg #[.int .i64 0, .int .i64 0, .int .i64 0, .int .i64 0, .slice none 0 0]) (by kernel_rfl) (by kernel_rfl) rfl (by repeat' (first | exact trivial | refine ⟨fun _ => by first | rfl | assumption | exact one_if (by assumption), ?_⟩ | refine ⟨fun ⟨_, h⟩ => by simp at h, ?_⟩)) rfl) ?_
 refine l_e rfl (fun K hK => ?_)
 have hS223 := hS74.fr4; clear hS74
 have hS224 := hS223.fr4; clear hS223
 have hS225 := hS224.fr4; clear hS224
 have hS226 := hS225.fr4; clear hS225
 refine e_call (by kernel_rfl) (hear_any k7 kw7 nd 0 (0 + 1) mb7 none [] 0 [] TOk.nil g LOk.nil (by first | omega | (simp only [zll] <;> omega)) k4 wa wc rs da dc l 0 s (by first | omega | (simp only [zll] <;> omega)) hl (by first | omega | (simp only [zll] <;> omega)) (by first | omega | (simp only [zll] <;> omega)) hR (Lr.mk (3 : Int) (((pickN x68.nd 16) : Nat) : Int) nd nd []) none 0 0 rfl (by first | omega | (simp only [zll] <;> omega)) _ _ ((fun _ _ e => by cases e) : Rog [_, _, _, _] _ (fun _ => none)) SlG.nil (St.begin (Γ := [_, _, _, _]) hS226)) rfl (after_M (Γ1 := [_, _, _, _]) hS226 (fun v222 G222 w222 hv222 hS222 => ?_))
 clear hS226
 obtain ⟨a222, oa222, oc222, O222, T222, wa222, wc222, rs222, da222, dc222, l222, s222, g222, rfl, rfl, hle222, hO222, hT222, hE222, hrs222, hrl222, hGr222⟩ := hv222
 have hS227 : St _ _ [co k7 kw7 nd 0 (0 + 1) mb7 oa222 O222 oc222 T222, wk kw7 k4 wa222 wc222 rs222, dk k4 da222 dc222 l222 0 s222, .fz g222, _, _] _ := hS222; clear hS222
 have hGs222 := hGr222.2.1; have hGl222 := hGr222.2.2.1; have hGm222 := hGr222.2.2.2
 refine hK _ _ ?_; clear hK K
 obtain ⟨ea222, eT222, eO222, el222, es222⟩ := val5 hE222 (hear_none0 (m := (pickN x68.nd 16)) (by decide) (by decide) (by omega) hnd _ _ _)
 subst ea222
 have eN222 := abs_nil eT222
 subst eN222
 have eM222 := los_nil eO222
 subst eM222
 have el222' := el222.symm; have es222' := es222.symm; subst el222' es222'
 refine l_nil ?_
 refine hK221 _ _ ?_
 refine wp_seq_k (fun K228 hK228 => ?_)
 refine wp_region_lit ?_
 refine l_q rfl rfl (q_moveP rfl) ?_
 refine l_e rfl (fun K hK => ?_)
 have hS230 := hS227.fr3; clear hS227
 have hS231 := hS230.fr1; clear hS230
 refine e_call (by kernel_rfl) (out_ok k7 kw7 nd 0 (0 + 1) mb7 oa222 [] oc222 [] hT222 g222 hO222 (by first | omega | (simp only [zll] <;> omega)) _ (St.begin (Γ := [_, _]) hS231)) rfl (after_M (Γ1 := [_, _]) hS231 (fun v229 G229 w229 hv229 hS229 => ?_))
 clear hS231
 obtain ⟨rfl, rfl⟩ := hv229
 have hS232 : St _ _ [.ow 42 5 oa222 ([].length) oc222 (List.flatMap lo []), _, .fz g222, _, dk k4 da222 dc222 l 0 s, _, _] _ := hS229; clear hS229
 refine hK _ _ ?_; clear hK K
 refine l_q rfl rfl (q_assignS rfl) ?_
 refine l_nil ?_
 refine hK228 _ _ ?_
 refine wp_seq_k (fun K233 hK233 => ?_)
 refine wp_region_lit ?_
 refine l_q rfl rfl (q_moveI rfl) ?_
 refine l_q rfl rfl (q_eql rfl rfl) ?_
 refine l_q rfl rfl (q_moveB rfl) ?_
 refine l_on rfl rfl (by decide) ?_
 refine l_q rfl rfl (q_moveI rfl) ?_
 refine l_on rfl rfl (by decide) ?_
 refine l_q rfl rfl (q_eql rfl rfl) ?_
 refine l_q rfl rfl (q_pickF rfl (by decide) rfl) ?_
 refine l_q rfl rfl (q_assignB rfl) ?_
 refine l_nil ?_
 refine hK233 _ _ ?_
 refine wp_seq_k (fun K234 hK234 => ?_)
 refine wp_region_lit ?_
 refine l_q rfl rfl (q_moveB rfl) ?_
 refine l_q rfl rfl (q_moveS rfl) ?_
 refine l_q rfl rfl (q_lenSl (e := 42) rfl (by kernel_rfl)) ?_
 refine l_q rfl rfl (q_bc (b := false) (decide_eq_false (by decide)) (q_eql rfl rfl)) ?_
 refine l_q rfl rfl (q_bool_neq rfl rfl (by kernel_rfl)) ?_
 refine l_q rfl rfl (q_moveB rfl) ?_
 refine l_on rfl rfl rfl ?_
 refine l_q rfl rfl (q_moveS rfl) ?_
 refine l_on rfl rfl rfl ?_
 refine l_q rfl rfl (q_lenSl (e := 42) rfl (by kernel_rfl)) ?_
 refine l_on rfl rfl rfl ?_
 refine l_q rfl rfl (q_bc (b := false) (decide_eq_false (by decide)) (q_gtr rfl rfl)) ?_
 refine l_q rfl rfl (q_pickF rfl rfl rfl) ?_
 refine l_q rfl rfl (q_moveB rfl) ?_
 refine l_on rfl rfl rfl ?_
 refine l_q rfl rfl (q_moveB rfl) ?_
 refine l_on rfl rfl rfl ?_
 refine l_q rfl rfl (q_moveB rfl) ?_
 refine l_off rfl rfl rfl (by decide) ?_
 refine l_off rfl rfl rfl (by decide) ?_
 refine l_off rfl rfl rfl (by decide) ?_
 refine l_off rfl rfl rfl (by decide) ?_
 refine l_off rfl rfl rfl (by decide) ?_
 refine l_off rfl rfl rfl (by decide) ?_
 refine l_offN rfl rfl rfl ?_
 refine l_offN rfl rfl rfl ?_
 refine l_offN rfl rfl rfl ?_
 refine l_offN rfl rfl rfl ?_
 refine l_offN rfl rfl rfl ?_
 refine l_offN rfl rfl rfl ?_
 refine l_off rfl rfl rfl (by decide) ?_
 refine l_on rfl rfl rfl ?_
 refine l_q rfl rfl (q_pickF rfl (by decide) rfl) ?_
 refine l_q rfl rfl (q_pickF rfl rfl rfl) ?_
 refine l_q rfl rfl (q_moveB rfl) ?_
 refine l_on rfl rfl rfl ?_
 refine l_q rfl rfl (q_moveP rfl) ?_
 refine l_on rfl rfl rfl ?_
 refine l_q rfl rfl (q_moveI rfl) ?_
 refine l_on rfl rfl rfl ?_
 refine l_e rfl (fun K hK => ?_)
 have hS236 := hS232.fr2; clear hS232
 have hS237 := hS236.fr2; clear hS236
 refine e_call (by kernel_rfl) (state_any k7 kw7 nd 0 (0 + 1) mb7 none [] 0 [] hT222 g222 LOk.nil (by first | omega | (simp only [zll] <;> omega)) nd _ (St.begin (Γ := [_, _]) hS237)) rfl (after_M (Γ1 := [_, _]) hS237 (fun v235 G235 w235 hv235 hS235 => ?_))
 clear hS237
 obtain ⟨a235, rfl, rfl, hE235⟩ := hv235
 have hS238 : St _ _ [_, .fz g222, _, _, _, _, _] _ := hS235; clear hS235
 refine hK _ _ ?_; clear hK K
 have ha235 : a235 = 0 := hE235.symm.trans (sta_nil _)
 subst ha235
 refine l_on rfl rfl rfl ?_
 refine l_q rfl rfl (q_neq rfl rfl) ?_
 refine l_q rfl rfl (q_pickF rfl rfl rfl) ?_
 refine l_nil ?_
 refine hK234 _ _ ?_
 refine c_condF rfl (by decide) ?_
 refine wp_skip ?_
 refine hK66 _ _ ?_
 refine wp_region_lit ?_
 refine l_q rfl rfl (q_moveI rfl) ?_
 refine l_q rfl rfl (q_addx rfl rfl (by first | decide | omega) (by first | decide | omega)) ?_
 refine l_q rfl rfl (q_assignI rfl) ?_
 refine l_nil ?_
 have hS240 := hS238.fr6; clear hS238
 have hS241 := hS240.fr2; clear hS240
 have hS242 := hS241.fr5; clear hS241
 have hS243 := hS242.fr5; clear hS242
 have hS244 := hS243.fr4; clear hS243
 have hS245 : St _ _ [_, _, _, .fz g222, _] _ := hS244.only 5; clear hS244
 refine hK61 _ _ (came (⟨(i + 1), wa222, wc222, rs222, da222, dc222, l, s, g222⟩) (by repeat' (first | exact Agree.refl _ _ | refine Agree.up ?_ rfl | refine Agree.hav2 ?_ rfl | refine Agree.ups2 ?_ rfl)) (by repeat' (first | exact trivial | refine ⟨by first | rfl | exact int_succ _ | assumption, ?_⟩)) ?_)
 exact ⟨⟨hS245, (by show i + 1 ≤ vs.length; omega), hg0.trans (by first | exact hle222 | skip), hrs222, (by show rs222.length ≤ 3 + (i + 1); omega), hl, hsl, hll⟩, by (show vs.length - (i + 1) < vs.length - i); omega⟩
 have hc65b := hc65
 try simp only [zbb] at hc65
 refine wp_exit ?_
 refine hK53 _ _ ?_
 refine wp_seq_k (fun K246 hK246 => ?_)
 refine wp_region_lit ?_
 refine l_e rfl (fun K hK => ?_)
 refine e_call (by kernel_rfl) (alive13_ok _) rfl (after_R hS61 (fun v247 w247 hv247 hS247 => ?_))
 clear hS61
 obtain rfl := hv247
 refine hK _ _ ?_; clear hK K
 refine l_q rfl rfl (q_assignB rfl) ?_
 refine l_nil ?_
 refine hK246 _ _ ?_
 refine wp_ret ?_
 refine c_ret1 rfl rfl ?_
 first | exact ⟨_, rfl, rfl, hS247.drop⟩ | exact ⟨_, rfl, congrArg Value.bool (decide_eq_true (by omega)), hS247.drop⟩
 have hg64b := hg64
 try simp only [zbb] at hg64
 refine l_off rfl rfl rfl hg64b ?_
 refine l_off rfl rfl rfl hg64b ?_
 refine l_q rfl rfl (q_pickF rfl hg64b rfl) ?_
 refine l_nil ?_
 refine hK63 _ _ ?_
 refine c_condF rfl rfl ?_
 refine wp_exit ?_
 refine hK53 _ _ ?_
 refine wp_seq_k (fun K249 hK249 => ?_)
 refine wp_region_lit ?_
 refine l_e rfl (fun K hK => ?_)
 refine e_call (by kernel_rfl) (alive13_ok _) rfl (after_R hS61 (fun v250 w250 hv250 hS250 => ?_))
 clear hS61
 obtain rfl := hv250
 refine hK _ _ ?_; clear hK K
 refine l_q rfl rfl (q_assignB rfl) ?_
 refine l_nil ?_
 refine hK249 _ _ ?_
 refine wp_ret ?_
 refine c_ret1 rfl rfl ?_
 first | exact ⟨_, rfl, rfl, hS250.drop⟩ | exact ⟨_, rfl, congrArg Value.bool (decide_eq_true (by omega)), hS250.drop⟩
 refine l_e rfl (fun K hK => ?_)
 refine e_call (by kernel_rfl) (ask_any k7 kw7 nd 0 (0 + 1) mb7 oa17 [] oc17 [(nd, b17, zeroTx)] hT17 g17 hO17 (by first | omega | (simp only [zll] <;> omega)) nd ns ns.length (by first | omega | (simp only [zll] <;> omega)) (by first | omega | (simp only [zll] <;> omega)) na nc _ _ (St.rogB (Γ1 := [_, _]) hS20) hN (St.begin (Γ := [_, _]) hS20)) rfl (after_M (Γ1 := [_, _]) hS20 (fun v251 G251 w251 hv251 hS251 => ?_))
 clear hS20
 obtain ⟨a251, oa251, oc251, O251, T251, g251, rfl, rfl, hle251, hO251, hT251, hE251⟩ := hv251
 have hS252 : St _ _ [co k7 kw7 nd 0 (0 + 1) mb7 oa251 O251 oc251 T251, .fz g251, _, _, _] _ := hS251; clear hS251
 have hR251_2 := RsOk.mono hR17_2 hle251
 refine hK _ _ ?_; clear hK K
 obtain ⟨ea251, eT251, eO251⟩ := val3 hE251 (ask_not rfl rfl (by cases h : (ofL ns).2 with | true => exact absurd h hof | false => rfl))
 subst ea251
 obtain ⟨b251, eN251⟩ := abs_one eT251
 subst eN251
 have eM251 := los_nil eO251
 subst eM251
 refine l_q rfl rfl (q_neq rfl rfl) ?_
 refine l_nil ?_
 refine hK22 _ _ ?_
 refine c_condT rfl (by decide) ?_
 refine wp_seq_k (fun K254 hK254 => ?_)
 refine wp_region_lit ?_
 refine l_e rfl (fun K hK => ?_)
 refine e_call (by kernel_rfl) (alive13_ok _) rfl (after_R hS252 (fun v255 w255 hv255 hS255 => ?_))
 clear hS252
 obtain rfl := hv255
 refine hK _ _ ?_; clear hK K
 refine l_q rfl rfl (q_assignB rfl) ?_
 refine l_nil ?_
 refine hK254 _ _ ?_
 refine wp_ret ?_
 refine c_ret1 rfl rfl ?_
 first | exact ⟨_, rfl, rfl, hS255.drop⟩ | exact ⟨_, rfl, congrArg Value.bool (decide_eq_true (by omega)), hS255.drop⟩
 refine l_e rfl (fun K hK => ?_)
 refine e_call (by kernel_rfl) (open_arg nd hnd _ _) rfl (after_R hS6 (fun v256 w256 hv256 hS256 => ?_))
 clear hS6
 obtain rfl := hv256
 refine hK _ _ ?_; clear hK K
 refine l_q rfl rfl (q_move rfl) ?_
 refine l_q rfl rfl (q_extract rfl rfl) ?_
 refine l_q rfl rfl (q_extract rfl rfl) ?_
 refine l_q rfl rfl (q_assignP rfl) ?_
 refine l_q rfl rfl (q_assignI rfl) ?_
 refine l_nil ?_
 refine hK3 _ _ ?_
 refine wp_seq_k (fun K257 hK257 => ?_)
 refine wp_seq_k (fun K258 hK258 => ?_)
 refine wp_region_lit ?_
 refine l_q rfl rfl (q_moveI rfl) ?_
 refine l_q rfl rfl (q_neq rfl rfl) ?_
 refine l_q rfl rfl (q_moveB rfl) ?_
 refine l_off rfl rfl rfl (by decide) ?_
 refine l_off rfl rfl rfl (by decide) ?_
 refine l_q rfl rfl (q_pickT rfl (by decide) rfl) ?_
 refine l_q rfl rfl (q_moveB rfl) ?_
 refine l_off rfl rfl rfl rfl ?_
 refine l_off rfl rfl rfl rfl ?_
 refine l_off rfl rfl rfl rfl ?_
 refine l_off rfl rfl rfl rfl ?_
 refine l_q rfl rfl (q_pickT rfl rfl rfl) ?_
 refine l_nil ?_
 refine hK258 _ _ ?_
 refine c_condT rfl rfl ?_
 refine wp_seq_k (fun K260 hK260 => ?_)
 refine wp_region_lit ?_
 refine l_e rfl (fun K hK => ?_)
 refine e_call (by kernel_rfl) (alive13_ok _) rfl (after_R hS256 (fun v261 w261 hv261 hS261 => ?_))
 clear hS256
 obtain rfl := hv261
 refine hK _ _ ?_; clear hK K
 refine l_q rfl rfl (q_moveB rfl) ?_
 refine l_on rfl rfl rfl ?_
 refine l_q rfl rfl (q_moveI rfl) ?_
 refine l_on rfl rfl rfl ?_
 refine l_q rfl rfl (q_eql rfl rfl) ?_
 refine l_on rfl rfl rfl ?_
 refine l_q rfl rfl (q_moveB rfl) ?_
 refine l_on rfl rfl (by decide) ?_
 refine l_q rfl rfl (q_moveI rfl) ?_
 refine l_on rfl rfl (by decide) ?_
 refine l_q rfl rfl (q_eql rfl rfl) ?_
 refine l_on rfl rfl rfl ?_
 refine l_q rfl rfl (q_pickF rfl (by decide) rfl) ?_
 refine l_q rfl rfl (q_pickT rfl rfl rfl) ?_
 refine l_q rfl rfl (q_assignB rfl) ?_
 refine l_nil ?_
 refine hK260 _ _ ?_
 refine wp_ret ?_
 refine c_ret1 rfl rfl ?_
 first | exact ⟨_, rfl, rfl, hS261.drop⟩ | exact ⟨_, rfl, congrArg Value.bool (decide_eq_true (by omega)), hS261.drop⟩
set_option maxHeartbeats 4000000 in
set_option maxRecDepth 100000 in
theorem stops_0 (nd : Int) (ns : List Int) (na : Option Addr) (nc : Nat) (vs : List Vo) (va : Option Addr) (vc : Nat) (keep : Int) (hvs : ∀ v ∈ vs, -9223372036854775808 ≤ v.nd ∧ -9223372036854775808 ≤ v.k) (w : World) (hN : SlG (hw w) na (iv ns)) (hV : SlG (hw w) va (List.flatMap vo vs))  : Calls Try.prog 3 #[.int .i64 nd, .agg #[.slice na ns.length nc, .slice va vs.length vc, .int .i64 keep], .bool false] w (PostR w fun v => v = .bool true) := by
 have hS := St.start w
 refine c_enter Try.func3 rfl rfl rfl ?_
 refine wp_seq_k (fun K1 hK1 => ?_)
 refine wp_region_lit ?_
 refine l_e rfl (fun K hK => ?_)
 refine e_boxA hS rfl (fun b2 w2 (hS2 : St _ _ [.blk b2 (.cells #[.slice na ns.length nc, .slice va vs.length vc, .int .i64 keep] 25)] _) => ?_)
 clear hS
 refine hK _ _ ?_; clear hK K
 refine l_q rfl rfl (q_assignB rfl) ?_
 refine l_nil ?_
 refine hK1 _ _ ?_
 refine wp_seq_k (fun K3 hK3 => ?_)
 refine wp_region_lit ?_
 refine l_e rfl (fun K hK => ?_)
 refine e_call (by kernel_rfl) (dNew_ok _) rfl (after_N hS2 (fun v4 G4 w4 hv4 hS4 => ?_))
 clear hS2
 obtain ⟨k4, rfl, rfl⟩ := hv4
 have hS5 : St _ _ [dk k4 none 0 [] 0 0, _] _ := hS4; clear hS4
 refine hK _ _ ?_; clear hK K
 have hS6 := hS5.fz0; clear hS5
 refine l_q rfl rfl (q_moveI rfl) ?_
 by_cases hnd : 0 ≤ nd ∧ nd < 16
 refine l_e rfl (fun K hK => ?_)
 have hS8 := hS6.fr1; clear hS6
 refine e_call (by kernel_rfl) (open_ok nd hnd _ _ _ [] 0 0 Bytes.nil (by first | omega | (simp only [zll] <;> omega)) (by first | omega | (simp only [zll] <;> omega)) _ (by first | omega | (simp only [zll] <;> omega)) (by rw [scan_nil]; exact Nat.zero_le _) (by rw [scan_nil]; show (replayR [] (0, [])).1 ≤ 65536; rw [replayR_nil]; exact Nat.zero_le _) _ (St.begin (Γ := [_, _]) hS8)) rfl (after_M (Γ1 := [_, _]) hS8 (fun v7 G7 w7 hv7 hS7 => ?_))
 clear hS8
 obtain ⟨k7, kw7, mb7, wa7, wc7, inc7, T7, rs7, da7, dc7, g7, rfl, rfl, hle7, hT7, hst7, hrs7, hrl7⟩ := hv7
 have hS9 : St _ _ [co k7 kw7 nd inc7 0 mb7 none [] 0 T7, wk kw7 k4 wa7 wc7 rs7, dk k4 da7 dc7 (recL ([].take (scan [] 0).2) [0, (inc7 : Int)]) 0 ((recL ([].take (scan [] 0).2) [0, (inc7 : Int)]).length), .fz g7, _] _ := hS7; clear hS7
 refine hK _ _ ?_; clear hK K
 have hsn0 : scan [] 0 = ([], 0) := scan_nil 0
 rw [hsn0, replayR_nil] at hst7
 have hi0 : inc7 = 0 := congrArg Prod.fst hst7
 have hT0 : T7 = [] := abs_nil (congrArg Prod.snd hst7)
 rw [hsn0] at hrl7
 subst hi0 hT0
 obtain ⟨l0, hl0e⟩ : ∃ l0, l0 = recL [] [0, 0] := ⟨_, rfl⟩
 have hS10 : St _ _ [co k7 kw7 nd 0 0 mb7 none [] 0 [], _, dk k4 da7 dc7 l0 0 l0.length, .fz g7, _] _ := hS9.cast (by rw [hl0e, hsn0]; rfl); clear hS9
 obtain ⟨hl0, hd0, hlen0⟩ := disk0 hl0e
 have hrl7' : rs7.length ≤ 1 := hrl7
 refine l_q rfl rfl (q_move rfl) ?_
 refine l_q rfl rfl (q_extract rfl rfl) ?_
 refine l_q rfl rfl (q_extract rfl rfl) ?_
 refine l_q rfl rfl (q_assignP rfl) ?_
 refine l_q rfl rfl (q_assignI rfl) ?_
 refine l_nil ?_
 refine hK3 _ _ ?_
 refine wp_seq_k (fun K11 hK11 => ?_)
 refine wp_seq_k (fun K12 hK12 => ?_)
 refine wp_region_lit ?_
 refine l_q rfl rfl (q_moveI rfl) ?_
 refine l_q rfl rfl (q_neq rfl rfl) ?_
 refine l_q rfl rfl (q_moveB rfl) ?_
 refine l_on rfl rfl (by decide) ?_
 refine l_q rfl rfl (q_moveP rfl) ?_
 refine l_on rfl rfl (by decide) ?_
 refine l_q rfl rfl (q_peq rfl (by kernel_rfl)) ?_
 refine l_q rfl rfl (q_pickF rfl (by decide) rfl) ?_
 refine l_q rfl rfl (q_moveB rfl) ?_
 refine l_on rfl rfl rfl ?_
 refine l_q rfl rfl (q_fieldAddr (ft := 22) (o := 0) rfl (by kernel_rfl)) ?_
 refine l_on rfl rfl rfl ?_
 refine l_q rfl rfl (q_load1 rfl (by kernel_rfl) (hS10.cell (i := 4) rfl rfl)) ?_
 refine l_on rfl rfl rfl ?_
 refine l_q rfl rfl (q_lenSl (e := 3) rfl (by kernel_rfl)) ?_
 refine l_on rfl rfl rfl ?_
 refine l_q rfl rfl (q_gtr rfl rfl) ?_
 refine l_q rfl rfl (q_pickF rfl rfl rfl) ?_
 refine l_nil ?_
 refine hK12 _ _ ?_
 refine c_cond rfl (fun hc13 => ?_) (fun hc13 => ?_)
 have hc13b := hc13
 try simp only [zbb] at hc13
 refine wp_seq_k (fun K14 hK14 => ?_)
 refine wp_region_lit ?_
 refine l_e rfl (fun K hK => ?_)
 refine e_call (by kernel_rfl) (alive13_ok _) rfl (after_R hS10 (fun v15 w15 hv15 hS15 => ?_))
 clear hS10
 obtain rfl := hv15
 refine hK _ _ ?_; clear hK K
 refine l_q rfl rfl (q_moveB rfl) ?_
 refine l_on rfl rfl rfl ?_
 refine l_q rfl rfl (q_moveI rfl) ?_
 refine l_on rfl rfl rfl ?_
 refine l_q rfl rfl (q_eql rfl rfl) ?_
 refine l_on rfl rfl rfl ?_
 refine l_q rfl rfl (q_moveB rfl) ?_
 refine l_off rfl rfl rfl (by decide) ?_
 refine l_off rfl rfl rfl (by decide) ?_
 refine l_on rfl rfl rfl ?_
 refine l_q rfl rfl (q_pickT rfl (by decide) rfl) ?_
 refine l_q rfl rfl (q_pickT rfl rfl rfl) ?_
 refine l_q rfl rfl (q_assignB rfl) ?_
 refine l_nil ?_
 refine hK14 _ _ ?_
 refine wp_ret ?_
 refine c_ret1 rfl rfl ?_
 first | exact ⟨_, rfl, rfl, hS15.drop⟩ | exact ⟨_, rfl, congrArg Value.bool (decide_eq_true (by omega)), hS15.drop⟩
 have hc13b := hc13
 try simp only [zbb] at hc13
 refine wp_skip ?_
 refine hK11 _ _ ?_
 refine wp_seq_k (fun K16 hK16 => ?_)
 refine wp_region_lit ?_
 refine l_q rfl rfl (q_moveP rfl) ?_
 refine l_e rfl (fun K hK => ?_)
 have hS18 := hS10.fr3; clear hS10
 have hS19 := hS18.fr1; clear hS18
 refine e_call (by kernel_rfl) (begin_ok k7 kw7 nd 0 0 mb7 none [] 0 [] TOk.nil g7 LOk.nil (by first | omega | (simp only [zll] <;> omega)) nd (by first | omega | (simp only [zll] <;> omega)) (by first | omega | (simp only [zll] <;> omega)) hnd (numB0 _).symm _ (St.begin (Γ := [_, _]) hS19)) rfl (after_M (Γ1 := [_, _]) hS19 (fun v17 G17 w17 hv17 hS17 => ?_))
 clear hS19
 obtain ⟨oa17, oc17, O17, T17, g17, rfl, rfl, hle17, hO17, hT17, hab17, hOe17⟩ := hv17
 have hS20 : St _ _ [co k7 kw7 nd 0 (0 + 1) mb7 oa17 O17 oc17 T17, .fz g17, _, _, _] _ := hS17; clear hS17
 have hR17_2 := RsOk.mono hrs7 hle17
 refine hK _ _ ?_; clear hK K
 obtain ⟨b17, eN17⟩ := abs_one (hab17.trans (set_nil _ _))
 subst eN17
 have eM17 := los_nil hOe17
 subst eM17
 refine l_q rfl rfl (q_move rfl) ?_
 refine l_q rfl rfl (q_extract rfl rfl) ?_
 refine l_q rfl rfl (q_extract rfl rfl) ?_
 refine l_q rfl rfl (q_assignI rfl) ?_
 refine l_q rfl rfl (q_assignI rfl) ?_
 refine l_nil ?_
 refine hK16 _ _ ?_
 refine wp_seq_k (fun K21 hK21 => ?_)
 refine wp_seq_k (fun K22 hK22 => ?_)
 refine wp_region_lit ?_
 refine l_q rfl rfl (q_moveP rfl) ?_
 refine l_q rfl rfl (q_moveI rfl) ?_
 refine l_q rfl rfl (q_fieldAddr (ft := 22) (o := 0) rfl (by kernel_rfl)) ?_
 refine l_q rfl rfl (q_load1 rfl (by kernel_rfl) (hS20.cell (i := 4) rfl rfl)) ?_
 by_cases hof : (ofL ns).2 = true
 refine l_e rfl (fun K hK => ?_)
 refine e_call (by kernel_rfl) (ask_any k7 kw7 nd 0 (0 + 1) mb7 oa17 [] oc17 [(nd, b17, zeroTx)] hT17 g17 hO17 (by first | omega | (simp only [zll] <;> omega)) nd ns ns.length (by first | omega | (simp only [zll] <;> omega)) (by first | omega | (simp only [zll] <;> omega)) na nc _ _ (St.rogB (Γ1 := [_, _]) hS20) hN (St.begin (Γ := [_, _]) hS20)) rfl (after_M (Γ1 := [_, _]) hS20 (fun v23 G23 w23 hv23 hS23 => ?_))
 clear hS20
 obtain ⟨a23, oa23, oc23, O23, T23, g23, rfl, rfl, hle23, hO23, hT23, hE23⟩ := hv23
 have hS24 : St _ _ [co k7 kw7 nd 0 (0 + 1) mb7 oa23 O23 oc23 T23, .fz g23, _, _, _] _ := hS23; clear hS23
 have hR23_2 := RsOk.mono hR17_2 hle23
 refine hK _ _ ?_; clear hK K
 obtain ⟨u, hu⟩ : ∃ u, ofL ns = (u, true) := ⟨_, Prod.ext rfl hof⟩
 obtain ⟨hun, hu0, hu1, hnn, hnl, hnp, hnx⟩ := ofL_facts hu
 obtain ⟨ea23, eT23, eO23⟩ := val3 hE23 (ask_one (u := u) rfl rfl hu)
 subst ea23
 obtain ⟨b23, eN23⟩ := abs_one eT23
 subst eN23
 have hol23 : O23.length ≤ 16 := by rw [los_len eO23, List.length_append, sends_length]; exact hnl0 hun hnl
 refine l_q rfl rfl (q_neq rfl rfl) ?_
 refine l_nil ?_
 refine hK22 _ _ ?_
 refine c_condF rfl (by decide) ?_
 refine wp_skip ?_
 refine hK21 _ _ ?_
 refine wp_seq_k (fun K26 hK26 => ?_)
 refine wp_region_lit ?_
 refine l_q rfl rfl (q_moveP rfl) ?_
 refine l_e rfl (fun K hK => ?_)
 refine e_call (by kernel_rfl) (out_ok k7 kw7 nd 0 (0 + 1) mb7 oa23 O23 oc23 [(nd, b23, (Tx.mk u zeroTx.yes zeroTx.read true zeroTx.com zeroTx.tell zeroTx.ticks))] hT23 g23 hO23 (by first | omega | (simp only [zll] <;> omega)) _ (St.begin (Γ := [_, _]) hS24)) rfl (after_M (Γ1 := [_, _]) hS24 (fun v27 G27 w27 hv27 hS27 => ?_))
 clear hS24
 obtain ⟨rfl, rfl⟩ := hv27
 have hS28 : St _ _ [.ow 42 5 oa23 O23.length oc23 (List.flatMap lo O23), co k7 kw7 nd 0 (0 + 1) mb7 none [] 0 [(nd, b23, (Tx.mk u zeroTx.yes zeroTx.read true zeroTx.com zeroTx.tell zeroTx.ticks))], .fz g23, _, _, _] _ := hS27; clear hS27
 refine hK _ _ ?_; clear hK K
 refine l_nil ?_
 refine hK26 _ _ ?_
 refine wp_seq_k (fun K29 hK29 => ?_)
 refine wp_seq_k (fun K30 hK30 => ?_)
 refine wp_region_lit ?_
 refine l_q rfl rfl (q_moveB rfl) ?_
 refine l_nil ?_
 refine hK30 _ _ ?_
 refine c_condF rfl rfl ?_
 refine wp_region_lit ?_
 refine l_q rfl rfl (q_moveP rfl) ?_
 refine l_q rfl rfl (q_fieldAddr (ft := 22) (o := 0) rfl (by kernel_rfl)) ?_
 refine l_q rfl rfl (q_load1 rfl (by kernel_rfl) (hS28.cell (i := 5) rfl rfl)) ?_
 refine l_q rfl rfl (q_ixG (e := 3) (m := 1) (j := 0) rfl rfl (by kernel_rfl) (by kernel_rfl) (by first | rfl | omega) (by omega) hN (by rw [iv_len]; first | omega | (simp only [zll] <;> omega))) ?_
 obtain ⟨x32, hx32⟩ : ∃ x, (ns)[0]? = some x := ⟨_, List.getElem?_eq_getElem (by first | omega | (simp only [zll] <;> omega) | (simp <;> omega))⟩
 refine l_q rfl rfl (q_load1 rfl (by kernel_rfl) (SlG.cell (hN.mono hS28.base) (Gle.refl _) (at1 (iv_at hx32)))) ?_
 have hx0 := hnx x32 (List.mem_of_getElem? hx32)
 obtain ⟨m, hm⟩ : ∃ m : Nat, x32 = (m : Int) := ⟨x32.toNat, by omega⟩
 subst hm
 have hm16 : m < 16 := by omega
 have hmn : (m : Int) ∈ ns := List.mem_of_getElem? hx32
 refine l_q rfl rfl (q_moveI rfl) ?_
 refine l_q rfl rfl (q_moveI rfl) ?_
 refine l_q rfl rfl (q_build (ps := [(0, 1), (1, 1), (2, 1), (3, 1), (4, 1)]) (zv := .agg #[.int .i64 0, .int .i64 0, .int .i64 0, .int .i64 0, .slice none 0 0]) (by kernel_rfl) (by kernel_rfl) rfl (by repeat' (first | exact trivial | refine ⟨fun _ => by first | rfl | assumption | exact one_if (by assumption), ?_⟩ | refine ⟨fun ⟨_, h⟩ => by simp at h, ?_⟩)) rfl) ?_
 refine l_e rfl (fun K hK => ?_)
 have hS34 := hS28.fr2; clear hS28
 have hS35 := hS34.fr4; clear hS34
 have hS36 := hS35.fr4; clear hS35
 have hS37 := hS36.fr4; clear hS36
 refine e_call (by kernel_rfl) (hear_any k7 kw7 nd 0 (0 + 1) mb7 none [] 0 [(nd, b23, (Tx.mk u zeroTx.yes zeroTx.read true zeroTx.com zeroTx.tell zeroTx.ticks))] hT23 g23 LOk.nil (by first | omega | (simp only [zll] <;> omega)) k4 wa7 wc7 rs7 da7 dc7 l0 0 l0.length (by first | omega | (simp only [zll] <;> omega)) hl0 (by first | omega | (simp only [zll] <;> omega)) (by first | omega | (simp only [zll] <;> omega)) hR23_2 (Lr.mk (3 : Int) (m : Int) nd nd []) none 0 0 rfl (by first | omega | (simp only [zll] <;> omega)) _ _ ((fun _ _ e => by cases e) : Rog [_, _, _, _] _ (fun _ => none)) SlG.nil (St.begin (Γ := [_, _, _, _]) hS37)) rfl (after_M (Γ1 := [_, _, _, _]) hS37 (fun v33 G33 w33 hv33 hS33 => ?_))
 clear hS37
 obtain ⟨a33, oa33, oc33, O33, T33, wa33, wc33, rs33, da33, dc33, l33, s33, g33, rfl, rfl, hle33, hO33, hT33, hE33, hrs33, hrl33, hGr33⟩ := hv33
 have hS38 : St _ _ [co k7 kw7 nd 0 (0 + 1) mb7 oa33 O33 oc33 T33, wk kw7 k4 wa33 wc33 rs33, dk k4 da33 dc33 l33 0 s33, .fz g33, _, _] _ := hS33; clear hS33
 have hGs33 := hGr33.2.1; have hGl33 := hGr33.2.2.1; have hGm33 := hGr33.2.2.2
 refine hK _ _ ?_; clear hK K
 obtain ⟨ea33, eT33, eO33, el33, es33⟩ := val5 hE33 (vote_no rfl hm16 hnd (bt_of_mem hun hmn) (by show ¬bt (0 ||| 0) m; exact bt_zero m) _ _ _)
 subst ea33
 have eN33 := abs_nil eT33
 subst eN33
 have el33' := el33.symm; have es33' := es33.symm; subst el33' es33'
 have hol33 : O33.length = ns.length - 1 := by rw [los_len eO33]; show (sends 6 nd nd (nodesTo (u ^^^ (u &&& (1 * 2 ^ m))) 16) 0).length = _; rw [sends_length, sub_len hun hmn]
 refine l_nil ?_
 refine hK29 _ _ ?_
 refine wp_seq_k (fun K39 hK39 => ?_)
 refine wp_region_lit ?_
 refine l_q rfl rfl (q_moveP rfl) ?_
 refine l_e rfl (fun K hK => ?_)
 have hS41 := hS38.fr3; clear hS38
 have hS42 := hS41.fr1; clear hS41
 refine e_call (by kernel_rfl) (out_ok k7 kw7 nd 0 (0 + 1) mb7 oa33 O33 oc33 [] hT33 g33 hO33 (by first | omega | (simp only [zll] <;> omega)) _ (St.begin (Γ := [_, _]) hS42)) rfl (after_M (Γ1 := [_, _]) hS42 (fun v40 G40 w40 hv40 hS40 => ?_))
 clear hS42
 obtain ⟨rfl, rfl⟩ := hv40
 have hS43 : St _ _ [.ow 42 5 oa33 O33.length oc33 (List.flatMap lo O33), co k7 kw7 nd 0 (0 + 1) mb7 none [] 0 [], .fz g33, _, dk k4 da33 dc33 l0 0 l0.length, _, _] _ := hS40; clear hS40
 refine hK _ _ ?_; clear hK K
 refine l_q rfl rfl (q_assignS rfl) ?_
 refine l_nil ?_
 refine hK39 _ _ ?_
 refine wp_seq_k (fun K44 hK44 => ?_)
 refine wp_region_lit ?_
 refine l_q rfl rfl (q_fieldAddr (ft := 22) (o := 0) rfl (by kernel_rfl)) ?_
 refine l_q rfl rfl (q_load1 rfl (by kernel_rfl) (hS43.cell (i := 6) rfl rfl)) ?_
 refine l_q rfl rfl (q_lenSl (e := 3) rfl (by kernel_rfl)) ?_
 refine l_q rfl rfl (q_assignI rfl) ?_
 refine l_nil ?_
 refine hK44 _ _ ?_
 refine wp_seq_k (fun K45 hK45 => ?_)
 refine wp_seq_k (fun K46 hK46 => ?_)
 refine wp_region_lit ?_
 refine l_q rfl rfl (q_moveB rfl) ?_
 refine l_q rfl rfl (q_not rfl) ?_
 refine l_nil ?_
 refine hK46 _ _ ?_
 refine c_condT rfl rfl ?_
 refine wp_region_lit ?_
 refine l_q rfl rfl (q_moveI rfl) ?_
 refine l_q rfl rfl (q_subx rfl rfl (by first | decide | omega) (by first | decide | omega)) ?_
 refine l_q rfl rfl (q_assignI rfl) ?_
 refine l_nil ?_
 refine hK45 _ _ ?_
 refine wp_seq_k (fun K48 hK48 => ?_)
 refine wp_seq_k (fun K49 hK49 => ?_)
 refine wp_region_lit ?_
 refine l_q rfl rfl (q_moveS rfl) ?_
 refine l_q rfl rfl (q_lenSl (e := 42) rfl (by kernel_rfl)) ?_
 refine l_q rfl rfl (q_moveI rfl) ?_
 refine l_q rfl rfl (q_neq rfl rfl) ?_
 refine l_q rfl rfl (q_moveB rfl) ?_
 refine g_splitL (t := 87) rfl (fun hg50 => ?_) (fun hg50 => ?_)
 have hg50b := hg50
 try simp only [zbb] at hg50
 exfalso; first | omega | exact hg50 trivial | exact absurd hg50 (by decide)
 have hg50b := hg50
 try simp only [zbb] at hg50
 refine l_on rfl rfl hg50b ?_
 refine l_q rfl rfl (q_moveP rfl) ?_
 refine l_on rfl rfl hg50b ?_
 refine l_q rfl rfl (q_moveI rfl) ?_
 refine l_on rfl rfl hg50b ?_
 refine l_e rfl (fun K hK => ?_)
 have hS52 := hS43.fr2; clear hS43
 have hS53 := hS52.fr2; clear hS52
 refine e_call (by kernel_rfl) (state_any k7 kw7 nd 0 (0 + 1) mb7 none [] 0 [] hT33 g33 LOk.nil (by first | omega | (simp only [zll] <;> omega)) nd _ (St.begin (Γ := [_, _]) hS53)) rfl (after_M (Γ1 := [_, _]) hS53 (fun v51 G51 w51 hv51 hS51 => ?_))
 clear hS53
 obtain ⟨a51, rfl, rfl, hE51⟩ := hv51
 have hS54 : St _ _ [_, .fz g33, _, _, _, _, _] _ := hS51; clear hS51
 refine hK _ _ ?_; clear hK K
 have ha51 : a51 = 0 := hE51.symm.trans (sta_nil _)
 subst ha51
 refine l_on rfl rfl hg50b ?_
 refine l_q rfl rfl (q_neq rfl rfl) ?_
 refine l_q rfl rfl (q_pickF rfl hg50b rfl) ?_
 refine l_nil ?_
 refine hK49 _ _ ?_
 refine c_condF rfl (by decide) ?_
 refine wp_skip ?_
 refine hK48 _ _ ?_
 refine wp_seq_k (fun K56 hK56 => ?_)
 refine wp_seq_k (fun K57 hK57 => ?_)
 refine wp_region_lit ?_
 refine l_q rfl rfl (q_assignI rfl) ?_
 refine l_nil ?_
 refine hK57 _ _ ?_
 refine wp_block ?_
 have hrl9 : rs33.length ≤ 3 := by omega
 have hS58 := hS54.fr6; clear hS54
 have hS59 := hS58.fr2; clear hS58
 have hS60 := hS59.fr5; clear hS59
 have hS61 := hS60.fr5; clear hS60
 have hS62 := hS61.fr4; clear hS61
 have hS63 : St _ _ [_, _, _, .fz g33, _] _ := hS62.only 5; clear hS62
 refine c_loop (τ := Nat × (Option Addr) × Nat × (List Rc) × (Option Addr) × Nat × (List Nat) × Nat × Gh) [(6, 6), (13, 18), (93, 165)] (fun x => (fun (i : Nat) (wa : Option Addr) (wc : Nat) (rs : List Rc) (da : Option Addr) (dc : Nat) (l : List Nat) (s : Nat) (g : Gh) => [(13, .int .i64 (i : Int))]) x.1 x.2.1 x.2.2.1 x.2.2.2.1 x.2.2.2.2.1 x.2.2.2.2.2.1 x.2.2.2.2.2.2.1 x.2.2.2.2.2.2.2.1 x.2.2.2.2.2.2.2.2) (fun x w' => (fun (i : Nat) (wa : Option Addr) (wc : Nat) (rs : List Rc) (da : Option Addr) (dc : Nat) (l : List Nat) (s : Nat) (g : Gh) => St w (fun _ => False) [co k7 kw7 nd 0 (0 + 1) mb7 none [] 0 [], wk kw7 k4 wa wc rs, dk k4 da dc l 0 s, .fz g, .blk b2 (.cells #[.slice na ns.length nc, .slice va vs.length vc, .int .i64 keep] 25)] w' ∧ i ≤ vs.length ∧ Gle g33 g ∧ RsOk g rs ∧ rs.length ≤ 3 + i ∧ Bytes l ∧ s ≤ l.length ∧ l.length ≤ 3382) x.1 x.2.1 x.2.2.1 x.2.2.2.1 x.2.2.2.2.1 x.2.2.2.2.2.1 x.2.2.2.2.2.2.1 x.2.2.2.2.2.2.2.1 x.2.2.2.2.2.2.2.2) (fun x => (fun (i : Nat) (wa : Option Addr) (wc : Nat) (rs : List Rc) (da : Option Addr) (dc : Nat) (l : List Nat) (s : Nat) (g : Gh) => vs.length - i) x.1 x.2.1 x.2.2.1 x.2.2.2.1 x.2.2.2.2.1 x.2.2.2.2.2.1 x.2.2.2.2.2.2.1 x.2.2.2.2.2.2.2.1 x.2.2.2.2.2.2.2.2) (⟨0, wa33, wc33, rs33, da33, dc33, l0, l0.length, g33⟩) ?_ (by repeat' (first | exact trivial | refine ⟨by first | rfl | exact int_succ _ | assumption, ?_⟩)) (fun x64 j64 w64 hJ64 K64 hK64 => ?_)
 exact ⟨hS63, Nat.zero_le _, Gle.refl _, hrs33, by omega, hl0, Nat.le_refl _, hlen0⟩
 obtain ⟨i, wa, wc, rs, da, dc, l, s, g⟩ := x64
 obtain ⟨hS64, hi, hg0, hR, hrn, hl, hsl, hll⟩ := hJ64
 try dsimp only at hS64 hi hg0 hR hrn hl hsl hll ⊢
 refine wp_seq_k (fun K65 hK65 => ?_)
 refine wp_seq_k (fun K66 hK66 => ?_)
 refine wp_region_lit ?_
 refine l_q rfl rfl (q_moveI rfl) ?_
 refine l_q rfl rfl (q_fieldAddr (ft := 23) (o := 1) rfl (by kernel_rfl)) ?_
 refine l_q rfl rfl (q_load1 rfl (by kernel_rfl) (hS64.cell (i := 4) rfl rfl)) ?_
 refine l_q rfl rfl (q_lenSl (e := 45) rfl (by kernel_rfl)) ?_
 refine l_q rfl rfl (q_lss rfl rfl) ?_
 refine l_q rfl rfl (q_moveB rfl) ?_
 refine g_splitL (t := 98) rfl (fun hg67 => ?_) (fun hg67 => ?_)
 have hg67b := hg67
 try simp only [zbb] at hg67
 refine l_on rfl rfl hg67b ?_
 refine l_q rfl rfl (q_moveI rfl) ?_
 refine l_on rfl rfl hg67b ?_
 refine l_q rfl rfl (q_lss rfl rfl) ?_
 refine l_q rfl rfl (q_pickT rfl hg67b rfl) ?_
 refine l_nil ?_
 refine hK66 _ _ ?_
 refine c_cond rfl (fun hc68 => ?_) (fun hc68 => ?_)
 have hc68b := hc68
 try simp only [zbb] at hc68
 refine wp_skip ?_
 refine hK65 _ _ ?_
 refine wp_seq_k (fun K69 hK69 => ?_)
 refine wp_block ?_
 refine wp_seq_k (fun K70 hK70 => ?_)
 refine wp_region_lit ?_
 refine l_q rfl rfl (q_fieldAddr (ft := 23) (o := 1) rfl (by kernel_rfl)) ?_
 refine l_q rfl rfl (q_load1 rfl (by kernel_rfl) (hS64.cell (i := 4) rfl rfl)) ?_
 refine l_q rfl rfl (q_moveI rfl) ?_
 refine l_q rfl rfl (q_ixG (e := 45) (m := 3) (j := i) rfl rfl (by kernel_rfl) (by kernel_rfl) (by first | rfl | omega) (by omega) hV (by rw [rows_len (c := vo) (m := 3) (fun _ => rfl)]; first | omega | (simp only [zll] <;> omega))) ?_
 obtain ⟨x71, hx71⟩ : ∃ x, (vs)[i]? = some x := ⟨_, List.getElem?_eq_getElem (by first | omega | (simp only [zll] <;> omega) | (simp <;> omega))⟩
 have hvo_x71 := hvs x71 (List.mem_of_getElem? hx71)
 refine l_q rfl rfl (q_loadGA (m := 3) rfl (by kernel_rfl) (by kernel_rfl) (hV.mono hS64.base) (row_take hx71 (c := vo) (m := 3) (fun _ => rfl)) rfl (by decide)) ?_
 refine l_e rfl (fun K hK => ?_)
 refine e_alloc (zv := .agg #[.int .i64 0, .int .i64 0, .bool false]) hS64 (by kernel_rfl) (fun b72 w72 (hS72 : St _ _ [.blk b72 (.cells #[.int .i64 (0 : Int), .int .i64 (0 : Int), .bool false] 45), _, wk kw7 k4 wa wc rs, dk k4 da dc l 0 s, .fz g, _] _) => ?_)
 clear hS64
 refine hK _ _ ?_; clear hK K
 refine l_e rfl (fun K hK => ?_)
 refine e_storeA hS72 rfl rfl (by kernel_rfl) (by repeat' (first | exact trivial | refine ⟨by first | rfl | assumption | exact one_if (by assumption), ?_⟩)) (i := 0) rfl rfl (fun w73 (hS73 : St _ _ [.blk b72 (.cells #[.int .i64 x71.nd, .int .i64 x71.k, .bool x71.p] 45), _, _, _, .fz g, _] _) => ?_)
 clear hS72
 refine hK _ _ ?_; clear hK K
 refine l_nil ?_
 refine hK70 _ _ ?_
 refine wp_seq_k (fun K74 hK74 => ?_)
 refine wp_region_lit ?_
 refine l_q rfl rfl (q_fieldAddr (ft := 3) (o := 0) rfl (by kernel_rfl)) ?_
 refine l_q rfl rfl (q_load1 rfl (by kernel_rfl) (hS73.cell (i := 0) rfl rfl)) ?_
 refine l_e rfl (fun K hK => ?_)
 refine e_call (by kernel_rfl) (pick13_ok x71.nd 16 (by first | omega | (simp only [zll] <;> omega)) (by first | omega | (simp only [zll] <;> omega)) _) rfl (after_R hS73 (fun v75 w75 hv75 hS75 => ?_))
 clear hS73
 obtain rfl := hv75
 have hpk75 := pickN_lt x71.nd (n := 16) (by omega)
 refine hK _ _ ?_; clear hK K
 refine l_q rfl rfl (q_assignI rfl) ?_
 refine l_nil ?_
 refine hK74 _ _ ?_
 refine wp_seq_k (fun K76 hK76 => ?_)
 refine wp_region_lit ?_
 refine l_q rfl rfl (q_fieldAddr (ft := 3) (o := 1) rfl (by kernel_rfl)) ?_
 refine l_q rfl rfl (q_load1 rfl (by kernel_rfl) (hS75.cell (i := 0) rfl rfl)) ?_
 refine l_e rfl (fun K hK => ?_)
 refine e_call (by kernel_rfl) (kind_ok x71.k (by omega) _) rfl (after_R hS75 (fun v77 w77 hv77 hS77 => ?_))
 clear hS75
 obtain rfl := hv77
 have hkd77 := kindV_in x71.k
 refine hK _ _ ?_; clear hK K
 rcases hkd77 with hkk | hkk | hkk
 rw [hkk]
 refine l_q rfl rfl (q_assignI rfl) ?_
 refine l_nil ?_
 refine hK76 _ _ ?_
 refine wp_seq_k (fun K78 hK78 => ?_)
 refine wp_seq_k (fun K79 hK79 => ?_)
 refine wp_region_lit ?_
 refine l_q rfl rfl (q_fieldAddr (ft := 4) (o := 2) rfl (by kernel_rfl)) ?_
 refine l_q rfl rfl (q_load1 rfl (by kernel_rfl) (hS77.cell (i := 0) rfl rfl)) ?_
 refine l_nil ?_
 refine hK79 _ _ ?_
 refine c_cond rfl (fun hc80 => ?_) (fun hc80 => ?_)
 have hc80b := hc80
 try simp only [zbb] at hc80
 refine wp_region_lit ?_
 refine l_q rfl rfl (q_assignI rfl) ?_
 refine l_nil ?_
 refine hK78 _ _ ?_
 refine wp_seq_k (fun K81 hK81 => ?_)
 refine wp_region_lit ?_
 refine l_q rfl rfl (q_moveP rfl) ?_
 refine l_q rfl rfl (q_moveI rfl) ?_
 refine l_q rfl rfl (q_moveI rfl) ?_
 refine l_q rfl rfl (q_moveI rfl) ?_
 refine l_q rfl rfl (q_moveI rfl) ?_
 refine l_q rfl rfl (q_build (ps := [(0, 1), (1, 1), (2, 1), (3, 1), (4, 1)]) (zv := .agg #[.int .i64 0, .int .i64 0, .int .i64 0, .int .i64 0, .slice none 0 0]) (by kernel_rfl) (by kernel_rfl) rfl (by repeat' (first | exact trivial | refine ⟨fun _ => by first | rfl | assumption | exact one_if (by assumption), ?_⟩ | refine ⟨fun ⟨_, h⟩ => by simp at h, ?_⟩)) rfl) ?_
 refine l_e rfl (fun K hK => ?_)
 have hS83 := hS77.fr4; clear hS77
 have hS84 := hS83.fr4; clear hS83
 have hS85 := hS84.fr4; clear hS84
 have hS86 := hS85.fr4; clear hS85
 refine e_call (by kernel_rfl) (hear_any k7 kw7 nd 0 (0 + 1) mb7 none [] 0 [] TOk.nil g LOk.nil (by first | omega | (simp only [zll] <;> omega)) k4 wa wc rs da dc l 0 s (by first | omega | (simp only [zll] <;> omega)) hl (by first | omega | (simp only [zll] <;> omega)) (by first | omega | (simp only [zll] <;> omega)) hR (Lr.mk (8 : Int) (((pickN x71.nd 16) : Nat) : Int) nd nd []) none 0 0 rfl (by first | omega | (simp only [zll] <;> omega)) _ _ ((fun _ _ e => by cases e) : Rog [_, _, _, _] _ (fun _ => none)) SlG.nil (St.begin (Γ := [_, _, _, _]) hS86)) rfl (after_M (Γ1 := [_, _, _, _]) hS86 (fun v82 G82 w82 hv82 hS82 => ?_))
 clear hS86
 obtain ⟨a82, oa82, oc82, O82, T82, wa82, wc82, rs82, da82, dc82, l82, s82, g82, rfl, rfl, hle82, hO82, hT82, hE82, hrs82, hrl82, hGr82⟩ := hv82
 have hS87 : St _ _ [co k7 kw7 nd 0 (0 + 1) mb7 oa82 O82 oc82 T82, wk kw7 k4 wa82 wc82 rs82, dk k4 da82 dc82 l82 0 s82, .fz g82, _, _] _ := hS82; clear hS82
 have hGs82 := hGr82.2.1; have hGl82 := hGr82.2.2.1; have hGm82 := hGr82.2.2.2
 refine hK _ _ ?_; clear hK K
 obtain ⟨ea82, eT82, eO82, el82, es82⟩ := val5 hE82 (hear_none1 (m := (pickN x71.nd 16)) (by decide) (by omega) hnd _ _ _)
 subst ea82
 have eN82 := abs_nil eT82
 subst eN82
 have el82' := el82.symm; have es82' := es82.symm; subst el82' es82'
 have eO82 : O82.map Lo.l = [Lr.mk 6 nd (((pickN x71.nd 16) : Nat) : Int) nd []] := eO82
 have hol82 : O82.length = 1 := los_len eO82
 refine l_nil ?_
 refine hK81 _ _ ?_
 refine wp_seq_k (fun K88 hK88 => ?_)
 refine wp_region_lit ?_
 refine l_q rfl rfl (q_moveP rfl) ?_
 refine l_e rfl (fun K hK => ?_)
 have hS90 := hS87.fr3; clear hS87
 have hS91 := hS90.fr1; clear hS90
 refine e_call (by kernel_rfl) (out_ok k7 kw7 nd 0 (0 + 1) mb7 oa82 O82 oc82 [] hT82 g82 hO82 (by first | omega | (simp only [zll] <;> omega)) _ (St.begin (Γ := [_, _]) hS91)) rfl (after_M (Γ1 := [_, _]) hS91 (fun v89 G89 w89 hv89 hS89 => ?_))
 clear hS91
 obtain ⟨rfl, rfl⟩ := hv89
 have hS92 : St _ _ [.ow 42 5 oa82 O82.length oc82 (List.flatMap lo O82), _, .fz g82, _, dk k4 da82 dc82 l 0 s, _, _] _ := hS89; clear hS89
 refine hK _ _ ?_; clear hK K
 refine l_q rfl rfl (q_assignS rfl) ?_
 refine l_nil ?_
 refine hK88 _ _ ?_
 refine wp_seq_k (fun K93 hK93 => ?_)
 refine wp_region_lit ?_
 refine l_q rfl rfl (q_moveI rfl) ?_
 refine l_q rfl rfl (q_eql rfl rfl) ?_
 refine l_q rfl rfl (q_moveB rfl) ?_
 refine l_on rfl rfl (by decide) ?_
 refine l_q rfl rfl (q_moveI rfl) ?_
 refine l_on rfl rfl (by decide) ?_
 refine l_q rfl rfl (q_eql rfl rfl) ?_
 refine l_q rfl rfl (q_pickF rfl (by decide) rfl) ?_
 refine l_q rfl rfl (q_assignB rfl) ?_
 refine l_nil ?_
 refine hK93 _ _ ?_
 refine wp_seq_k (fun K94 hK94 => ?_)
 refine wp_region_lit ?_
 refine l_q rfl rfl (q_moveB rfl) ?_
 refine l_q rfl rfl (q_moveS rfl) ?_
 refine l_q rfl rfl (q_lenSl (e := 42) rfl (by kernel_rfl)) ?_
 refine l_q rfl rfl (q_bc (b := true) (decide_eq_true (by omega)) (q_eql rfl rfl)) ?_
 refine l_q rfl rfl (q_bool_neq rfl rfl (by kernel_rfl)) ?_
 refine l_q rfl rfl (q_moveB rfl) ?_
 refine l_on rfl rfl rfl ?_
 refine l_q rfl rfl (q_moveS rfl) ?_
 refine l_on rfl rfl rfl ?_
 refine l_q rfl rfl (q_lenSl (e := 42) rfl (by kernel_rfl)) ?_
 refine l_on rfl rfl rfl ?_
 refine l_q rfl rfl (q_bc (b := false) (decide_eq_false (by omega)) (q_gtr rfl rfl)) ?_
 refine l_q rfl rfl (q_pickF rfl rfl rfl) ?_
 refine l_q rfl rfl (q_moveB rfl) ?_
 refine l_on rfl rfl rfl ?_
 refine l_q rfl rfl (q_moveB rfl) ?_
 refine l_on rfl rfl rfl ?_
 refine l_q rfl rfl (q_moveB rfl) ?_
 refine l_on rfl rfl (by decide) ?_
 refine l_q rfl rfl (q_moveS rfl) ?_
 refine l_on rfl rfl (by decide) ?_
 refine l_q rfl rfl (q_ixG (e := 42) (m := 5) (j := 0) rfl rfl (by kernel_rfl) (by kernel_rfl) (by first | rfl | omega) (by omega) (hS92.owG (i := 0) rfl) (by rw [rows_len (c := lo) (m := 5) (fun _ => rfl)]; first | omega | (simp only [zll] <;> omega))) ?_
 refine l_on rfl rfl (by decide) ?_
 refine l_q rfl rfl (q_fieldG (ft := 40) (o := 0) rfl (by kernel_rfl)) ?_
 refine l_on rfl rfl (by decide) ?_
 obtain ⟨x95, hx95⟩ : ∃ x, (O82)[0]? = some x := ⟨_, List.getElem?_eq_getElem (by first | omega | (simp only [zll] <;> omega) | (simp <;> omega))⟩
 have hlx_x95 := (hO82 x95 (List.mem_of_getElem? hx95)).2
 refine l_q rfl rfl (q_load1 rfl (by kernel_rfl) (SlG.cell (hS92.owG (i := 0) rfl) (Gle.refl _) (row_at hx95 (c := lo) (m := 5) (fun _ => rfl) (j := 0) rfl))) ?_
 have hl1 : Lr.mk 6 nd (((pickN x71.nd 16) : Nat) : Int) nd [] = x95.l := Option.some.inj (los_at eO82 hx95)
 have hlk : x95.l.k = 6 := by rw [← hl1]
 have hlt : x95.l.t = (((pickN x71.nd 16) : Nat) : Int) := by rw [← hl1]
 refine l_on rfl rfl (by decide) ?_
 refine l_q rfl rfl (q_neq rfl rfl) ?_
 refine l_on rfl rfl (by decide) ?_
 refine l_q rfl rfl (q_moveB rfl) ?_
 refine g_splitL (t := 150) rfl (fun hg96 => ?_) (fun hg96 => ?_)
 have hg96b := hg96
 try simp only [zbb] at hg96
 exfalso; first | omega | exact hg96 trivial | exact absurd hg96 (by decide)
 have hg96b := hg96
 try simp only [zbb] at hg96
 refine l_on rfl rfl hg96b ?_
 refine l_q rfl rfl (q_moveS rfl) ?_
 refine l_on rfl rfl hg96b ?_
 refine l_q rfl rfl (q_ixG (e := 42) (m := 5) (j := 0) rfl rfl (by kernel_rfl) (by kernel_rfl) (by first | rfl | omega) (by omega) (hS92.owG (i := 0) rfl) (by rw [rows_len (c := lo) (m := 5) (fun _ => rfl)]; first | omega | (simp only [zll] <;> omega))) ?_
 refine l_on rfl rfl hg96b ?_
 refine l_q rfl rfl (q_fieldG (ft := 3) (o := 2) rfl (by kernel_rfl)) ?_
 refine l_on rfl rfl hg96b ?_
 refine l_q rfl rfl (q_load1 rfl (by kernel_rfl) (SlG.cell (hS92.owG (i := 0) rfl) (Gle.refl _) (row_at hx95 (c := lo) (m := 5) (fun _ => rfl) (j := 2) rfl))) ?_
 refine l_on rfl rfl hg96b ?_
 refine l_q rfl rfl (q_moveI rfl) ?_
 refine l_on rfl rfl hg96b ?_
 refine l_q rfl rfl (q_neq rfl rfl) ?_
 refine l_on rfl rfl (by decide) ?_
 refine l_q rfl rfl (q_pickF rfl hg96b rfl) ?_
 refine l_on rfl rfl rfl ?_
 refine l_q rfl rfl (q_pickT rfl (by decide) rfl) ?_
 refine l_q rfl rfl (q_pickF rfl rfl rfl) ?_
 refine l_q rfl rfl (q_moveB rfl) ?_
 refine g_splitL (t := 160) rfl (fun hg97 => ?_) (fun hg97 => ?_)
 have hg97b := hg97
 try simp only [zbb] at hg97
 exfalso; first | omega | exact hg97 trivial | exact absurd hg97 (by decide)
 have hg97b := hg97
 try simp only [zbb] at hg97
 refine l_on rfl rfl hg97b ?_
 refine l_q rfl rfl (q_moveP rfl) ?_
 refine l_on rfl rfl hg97b ?_
 refine l_q rfl rfl (q_moveI rfl) ?_
 refine l_on rfl rfl hg97b ?_
 refine l_e rfl (fun K hK => ?_)
 have hS99 := hS92.fr2; clear hS92
 have hS100 := hS99.fr2; clear hS99
 refine e_call (by kernel_rfl) (state_any k7 kw7 nd 0 (0 + 1) mb7 none [] 0 [] hT82 g82 LOk.nil (by first | omega | (simp only [zll] <;> omega)) nd _ (St.begin (Γ := [_, _]) hS100)) rfl (after_M (Γ1 := [_, _]) hS100 (fun v98 G98 w98 hv98 hS98 => ?_))
 clear hS100
 obtain ⟨a98, rfl, rfl, hE98⟩ := hv98
 have hS101 : St _ _ [_, .fz g82, _, _, _, _, _] _ := hS98; clear hS98
 refine hK _ _ ?_; clear hK K
 have ha98 : a98 = 0 := hE98.symm.trans (sta_nil _)
 subst ha98
 refine l_on rfl rfl hg97b ?_
 refine l_q rfl rfl (q_neq rfl rfl) ?_
 refine l_q rfl rfl (q_pickF rfl hg97b rfl) ?_
 refine l_nil ?_
 refine hK94 _ _ ?_
 refine c_condF rfl (by decide) ?_
 refine wp_skip ?_
 refine hK69 _ _ ?_
 refine wp_region_lit ?_
 refine l_q rfl rfl (q_moveI rfl) ?_
 refine l_q rfl rfl (q_addx rfl rfl (by first | decide | omega) (by first | decide | omega)) ?_
 refine l_q rfl rfl (q_assignI rfl) ?_
 refine l_nil ?_
 have hS103 := hS101.fr6; clear hS101
 have hS104 := hS103.fr2; clear hS103
 have hS105 := hS104.fr5; clear hS104
 have hS106 := hS105.fr5; clear hS105
 have hS107 := hS106.fr4; clear hS106
 have hS108 : St _ _ [_, _, _, .fz g82, _] _ := hS107.only 5; clear hS107
 refine hK64 _ _ (came (⟨(i + 1), wa82, wc82, rs82, da82, dc82, l, s, g82⟩) (by repeat' (first | exact Agree.refl _ _ | refine Agree.up ?_ rfl | refine Agree.hav2 ?_ rfl | refine Agree.ups2 ?_ rfl)) (by repeat' (first | exact trivial | refine ⟨by first | rfl | exact int_succ _ | assumption, ?_⟩)) ?_)
 exact ⟨⟨hS108, (by show i + 1 ≤ vs.length; omega), hg0.trans (by first | exact hle82 | skip), hrs82, (by show rs82.length ≤ 3 + (i + 1); omega), hl, hsl, hll⟩, by (show vs.length - (i + 1) < vs.length - i); omega⟩
 have hc80b := hc80
 try simp only [zbb] at hc80
 refine wp_skip ?_
 refine hK78 _ _ ?_
 refine wp_seq_k (fun K109 hK109 => ?_)
 refine wp_region_lit ?_
 refine l_q rfl rfl (q_moveP rfl) ?_
 refine l_q rfl rfl (q_moveI rfl) ?_
 refine l_q rfl rfl (q_moveI rfl) ?_
 refine l_q rfl rfl (q_moveI rfl) ?_
 refine l_q rfl rfl (q_moveI rfl) ?_
 refine l_q rfl rfl (q_build (ps := [(0, 1), (1, 1), (2, 1), (3, 1), (4, 1)]) (zv := .agg #[.int .i64 0, .int .i64 0, .int .i64 0, .int .i64 0, .slice none 0 0]) (by kernel_rfl) (by kernel_rfl) rfl (by repeat' (first | exact trivial | refine ⟨fun _ => by first | rfl | assumption | exact one_if (by assumption), ?_⟩ | refine ⟨fun ⟨_, h⟩ => by simp at h, ?_⟩)) rfl) ?_
 refine l_e rfl (fun K hK => ?_)
 have hS111 := hS77.fr4; clear hS77
 have hS112 := hS111.fr4; clear hS111
 have hS113 := hS112.fr4; clear hS112
 have hS114 := hS113.fr4; clear hS113
 refine e_call (by kernel_rfl) (hear_any k7 kw7 nd 0 (0 + 1) mb7 none [] 0 [] TOk.nil g LOk.nil (by first | omega | (simp only [zll] <;> omega)) k4 wa wc rs da dc l 0 s (by first | omega | (simp only [zll] <;> omega)) hl (by first | omega | (simp only [zll] <;> omega)) (by first | omega | (simp only [zll] <;> omega)) hR (Lr.mk (2 : Int) (((pickN x71.nd 16) : Nat) : Int) nd nd []) none 0 0 rfl (by first | omega | (simp only [zll] <;> omega)) _ _ ((fun _ _ e => by cases e) : Rog [_, _, _, _] _ (fun _ => none)) SlG.nil (St.begin (Γ := [_, _, _, _]) hS114)) rfl (after_M (Γ1 := [_, _, _, _]) hS114 (fun v110 G110 w110 hv110 hS110 => ?_))
 clear hS114
 obtain ⟨a110, oa110, oc110, O110, T110, wa110, wc110, rs110, da110, dc110, l110, s110, g110, rfl, rfl, hle110, hO110, hT110, hE110, hrs110, hrl110, hGr110⟩ := hv110
 have hS115 : St _ _ [co k7 kw7 nd 0 (0 + 1) mb7 oa110 O110 oc110 T110, wk kw7 k4 wa110 wc110 rs110, dk k4 da110 dc110 l110 0 s110, .fz g110, _, _] _ := hS110; clear hS110
 have hGs110 := hGr110.2.1; have hGl110 := hGr110.2.2.1; have hGm110 := hGr110.2.2.2
 refine hK _ _ ?_; clear hK K
 obtain ⟨ea110, eT110, eO110, el110, es110⟩ := val5 hE110 (hear_none1 (m := (pickN x71.nd 16)) (by decide) (by omega) hnd _ _ _)
 subst ea110
 have eN110 := abs_nil eT110
 subst eN110
 have el110' := el110.symm; have es110' := es110.symm; subst el110' es110'
 have eO110 : O110.map Lo.l = [Lr.mk 6 nd (((pickN x71.nd 16) : Nat) : Int) nd []] := eO110
 have hol110 : O110.length = 1 := los_len eO110
 refine l_nil ?_
 refine hK109 _ _ ?_
 refine wp_seq_k (fun K116 hK116 => ?_)
 refine wp_region_lit ?_
 refine l_q rfl rfl (q_moveP rfl) ?_
 refine l_e rfl (fun K hK => ?_)
 have hS118 := hS115.fr3; clear hS115
 have hS119 := hS118.fr1; clear hS118
 refine e_call (by kernel_rfl) (out_ok k7 kw7 nd 0 (0 + 1) mb7 oa110 O110 oc110 [] hT110 g110 hO110 (by first | omega | (simp only [zll] <;> omega)) _ (St.begin (Γ := [_, _]) hS119)) rfl (after_M (Γ1 := [_, _]) hS119 (fun v117 G117 w117 hv117 hS117 => ?_))
 clear hS119
 obtain ⟨rfl, rfl⟩ := hv117
 have hS120 : St _ _ [.ow 42 5 oa110 O110.length oc110 (List.flatMap lo O110), _, .fz g110, _, dk k4 da110 dc110 l 0 s, _, _] _ := hS117; clear hS117
 refine hK _ _ ?_; clear hK K
 refine l_q rfl rfl (q_assignS rfl) ?_
 refine l_nil ?_
 refine hK116 _ _ ?_
 refine wp_seq_k (fun K121 hK121 => ?_)
 refine wp_region_lit ?_
 refine l_q rfl rfl (q_moveI rfl) ?_
 refine l_q rfl rfl (q_eql rfl rfl) ?_
 refine l_q rfl rfl (q_moveB rfl) ?_
 refine l_off rfl rfl rfl (by decide) ?_
 refine l_off rfl rfl rfl (by decide) ?_
 refine l_q rfl rfl (q_pickT rfl (by decide) rfl) ?_
 refine l_q rfl rfl (q_assignB rfl) ?_
 refine l_nil ?_
 refine hK121 _ _ ?_
 refine wp_seq_k (fun K122 hK122 => ?_)
 refine wp_region_lit ?_
 refine l_q rfl rfl (q_moveB rfl) ?_
 refine l_q rfl rfl (q_moveS rfl) ?_
 refine l_q rfl rfl (q_lenSl (e := 42) rfl (by kernel_rfl)) ?_
 refine l_q rfl rfl (q_bc (b := true) (decide_eq_true (by omega)) (q_eql rfl rfl)) ?_
 refine l_q rfl rfl (q_bool_neq rfl rfl (by kernel_rfl)) ?_
 refine l_q rfl rfl (q_moveB rfl) ?_
 refine l_on rfl rfl rfl ?_
 refine l_q rfl rfl (q_moveS rfl) ?_
 refine l_on rfl rfl rfl ?_
 refine l_q rfl rfl (q_lenSl (e := 42) rfl (by kernel_rfl)) ?_
 refine l_on rfl rfl rfl ?_
 refine l_q rfl rfl (q_bc (b := false) (decide_eq_false (by omega)) (q_gtr rfl rfl)) ?_
 refine l_q rfl rfl (q_pickF rfl rfl rfl) ?_
 refine l_q rfl rfl (q_moveB rfl) ?_
 refine l_on rfl rfl rfl ?_
 refine l_q rfl rfl (q_moveB rfl) ?_
 refine l_on rfl rfl rfl ?_
 refine l_q rfl rfl (q_moveB rfl) ?_
 refine l_on rfl rfl rfl ?_
 refine l_q rfl rfl (q_moveS rfl) ?_
 refine l_on rfl rfl rfl ?_
 refine l_q rfl rfl (q_ixG (e := 42) (m := 5) (j := 0) rfl rfl (by kernel_rfl) (by kernel_rfl) (by first | rfl | omega) (by omega) (hS120.owG (i := 0) rfl) (by rw [rows_len (c := lo) (m := 5) (fun _ => rfl)]; first | omega | (simp only [zll] <;> omega))) ?_
 refine l_on rfl rfl rfl ?_
 refine l_q rfl rfl (q_fieldG (ft := 40) (o := 0) rfl (by kernel_rfl)) ?_
 refine l_on rfl rfl rfl ?_
 obtain ⟨x123, hx123⟩ : ∃ x, (O110)[0]? = some x := ⟨_, List.getElem?_eq_getElem (by first | omega | (simp only [zll] <;> omega) | (simp <;> omega))⟩
 have hlx_x123 := (hO110 x123 (List.mem_of_getElem? hx123)).2
 refine l_q rfl rfl (q_load1 rfl (by kernel_rfl) (SlG.cell (hS120.owG (i := 0) rfl) (Gle.refl _) (row_at hx123 (c := lo) (m := 5) (fun _ => rfl) (j := 0) rfl))) ?_
 have hl1 : Lr.mk 6 nd (((pickN x71.nd 16) : Nat) : Int) nd [] = x123.l := Option.some.inj (los_at eO110 hx123)
 have hlk : x123.l.k = 6 := by rw [← hl1]
 have hlt : x123.l.t = (((pickN x71.nd 16) : Nat) : Int) := by rw [← hl1]
 refine l_on rfl rfl rfl ?_
 refine l_q rfl rfl (q_neq rfl rfl) ?_
 refine l_on rfl rfl rfl ?_
 refine l_q rfl rfl (q_moveB rfl) ?_
 refine g_splitL (t := 150) rfl (fun hg124 => ?_) (fun hg124 => ?_)
 have hg124b := hg124
 try simp only [zbb] at hg124
 exfalso; first | omega | exact hg124 trivial | exact absurd hg124 (by decide)
 have hg124b := hg124
 try simp only [zbb] at hg124
 refine l_on rfl rfl hg124b ?_
 refine l_q rfl rfl (q_moveS rfl) ?_
 refine l_on rfl rfl hg124b ?_
 refine l_q rfl rfl (q_ixG (e := 42) (m := 5) (j := 0) rfl rfl (by kernel_rfl) (by kernel_rfl) (by first | rfl | omega) (by omega) (hS120.owG (i := 0) rfl) (by rw [rows_len (c := lo) (m := 5) (fun _ => rfl)]; first | omega | (simp only [zll] <;> omega))) ?_
 refine l_on rfl rfl hg124b ?_
 refine l_q rfl rfl (q_fieldG (ft := 3) (o := 2) rfl (by kernel_rfl)) ?_
 refine l_on rfl rfl hg124b ?_
 refine l_q rfl rfl (q_load1 rfl (by kernel_rfl) (SlG.cell (hS120.owG (i := 0) rfl) (Gle.refl _) (row_at hx123 (c := lo) (m := 5) (fun _ => rfl) (j := 2) rfl))) ?_
 refine l_on rfl rfl hg124b ?_
 refine l_q rfl rfl (q_moveI rfl) ?_
 refine l_on rfl rfl hg124b ?_
 refine l_q rfl rfl (q_neq rfl rfl) ?_
 refine l_on rfl rfl rfl ?_
 refine l_q rfl rfl (q_pickF rfl hg124b rfl) ?_
 refine l_on rfl rfl rfl ?_
 refine l_q rfl rfl (q_pickT rfl rfl rfl) ?_
 refine l_q rfl rfl (q_pickF rfl rfl rfl) ?_
 refine l_q rfl rfl (q_moveB rfl) ?_
 refine g_splitL (t := 160) rfl (fun hg125 => ?_) (fun hg125 => ?_)
 have hg125b := hg125
 try simp only [zbb] at hg125
 exfalso; first | omega | exact hg125 trivial | exact absurd hg125 (by decide)
 have hg125b := hg125
 try simp only [zbb] at hg125
 refine l_on rfl rfl hg125b ?_
 refine l_q rfl rfl (q_moveP rfl) ?_
 refine l_on rfl rfl hg125b ?_
 refine l_q rfl rfl (q_moveI rfl) ?_
 refine l_on rfl rfl hg125b ?_
 refine l_e rfl (fun K hK => ?_)
 have hS127 := hS120.fr2; clear hS120
 have hS128 := hS127.fr2; clear hS127
 refine e_call (by kernel_rfl) (state_any k7 kw7 nd 0 (0 + 1) mb7 none [] 0 [] hT110 g110 LOk.nil (by first | omega | (simp only [zll] <;> omega)) nd _ (St.begin (Γ := [_, _]) hS128)) rfl (after_M (Γ1 := [_, _]) hS128 (fun v126 G126 w126 hv126 hS126 => ?_))
 clear hS128
 obtain ⟨a126, rfl, rfl, hE126⟩ := hv126
 have hS129 : St _ _ [_, .fz g110, _, _, _, _, _] _ := hS126; clear hS126
 refine hK _ _ ?_; clear hK K
 have ha126 : a126 = 0 := hE126.symm.trans (sta_nil _)
 subst ha126
 refine l_on rfl rfl hg125b ?_
 refine l_q rfl rfl (q_neq rfl rfl) ?_
 refine l_q rfl rfl (q_pickF rfl hg125b rfl) ?_
 refine l_nil ?_
 refine hK122 _ _ ?_
 refine c_condF rfl (by decide) ?_
 refine wp_skip ?_
 refine hK69 _ _ ?_
 refine wp_region_lit ?_
 refine l_q rfl rfl (q_moveI rfl) ?_
 refine l_q rfl rfl (q_addx rfl rfl (by first | decide | omega) (by first | decide | omega)) ?_
 refine l_q rfl rfl (q_assignI rfl) ?_
 refine l_nil ?_
 have hS131 := hS129.fr6; clear hS129
 have hS132 := hS131.fr2; clear hS131
 have hS133 := hS132.fr5; clear hS132
 have hS134 := hS133.fr5; clear hS133
 have hS135 := hS134.fr4; clear hS134
 have hS136 : St _ _ [_, _, _, .fz g110, _] _ := hS135.only 5; clear hS135
 refine hK64 _ _ (came (⟨(i + 1), wa110, wc110, rs110, da110, dc110, l, s, g110⟩) (by repeat' (first | exact Agree.refl _ _ | refine Agree.up ?_ rfl | refine Agree.hav2 ?_ rfl | refine Agree.ups2 ?_ rfl)) (by repeat' (first | exact trivial | refine ⟨by first | rfl | exact int_succ _ | assumption, ?_⟩)) ?_)
 exact ⟨⟨hS136, (by show i + 1 ≤ vs.length; omega), hg0.trans (by first | exact hle110 | skip), hrs110, (by show rs110.length ≤ 3 + (i + 1); omega), hl, hsl, hll⟩, by (show vs.length - (i + 1) < vs.length - i); omega⟩
 rw [hkk]
 refine l_q rfl rfl (q_assignI rfl) ?_
 refine l_nil ?_
 refine hK76 _ _ ?_
 refine wp_seq_k (fun K137 hK137 => ?_)
 refine wp_seq_k (fun K138 hK138 => ?_)
 refine wp_region_lit ?_
 refine l_q rfl rfl (q_fieldAddr (ft := 4) (o := 2) rfl (by kernel_rfl)) ?_
 refine l_q rfl rfl (q_load1 rfl (by kernel_rfl) (hS77.cell (i := 0) rfl rfl)) ?_
 refine l_nil ?_
 refine hK138 _ _ ?_
 refine c_cond rfl (fun hc139 => ?_) (fun hc139 => ?_)
 have hc139b := hc139
 try simp only [zbb] at hc139
 refine wp_region_lit ?_
 refine l_q rfl rfl (q_assignI rfl) ?_
 refine l_nil ?_
 refine hK137 _ _ ?_
 refine wp_seq_k (fun K140 hK140 => ?_)
 refine wp_region_lit ?_
 refine l_q rfl rfl (q_moveP rfl) ?_
 refine l_q rfl rfl (q_moveI rfl) ?_
 refine l_q rfl rfl (q_moveI rfl) ?_
 refine l_q rfl rfl (q_moveI rfl) ?_
 refine l_q rfl rfl (q_moveI rfl) ?_
 refine l_q rfl rfl (q_build (ps := [(0, 1), (1, 1), (2, 1), (3, 1), (4, 1)]) (zv := .agg #[.int .i64 0, .int .i64 0, .int .i64 0, .int .i64 0, .slice none 0 0]) (by kernel_rfl) (by kernel_rfl) rfl (by repeat' (first | exact trivial | refine ⟨fun _ => by first | rfl | assumption | exact one_if (by assumption), ?_⟩ | refine ⟨fun ⟨_, h⟩ => by simp at h, ?_⟩)) rfl) ?_
 refine l_e rfl (fun K hK => ?_)
 have hS142 := hS77.fr4; clear hS77
 have hS143 := hS142.fr4; clear hS142
 have hS144 := hS143.fr4; clear hS143
 have hS145 := hS144.fr4; clear hS144
 refine e_call (by kernel_rfl) (hear_any k7 kw7 nd 0 (0 + 1) mb7 none [] 0 [] TOk.nil g LOk.nil (by first | omega | (simp only [zll] <;> omega)) k4 wa wc rs da dc l 0 s (by first | omega | (simp only [zll] <;> omega)) hl (by first | omega | (simp only [zll] <;> omega)) (by first | omega | (simp only [zll] <;> omega)) hR (Lr.mk (8 : Int) (((pickN x71.nd 16) : Nat) : Int) nd nd []) none 0 0 rfl (by first | omega | (simp only [zll] <;> omega)) _ _ ((fun _ _ e => by cases e) : Rog [_, _, _, _] _ (fun _ => none)) SlG.nil (St.begin (Γ := [_, _, _, _]) hS145)) rfl (after_M (Γ1 := [_, _, _, _]) hS145 (fun v141 G141 w141 hv141 hS141 => ?_))
 clear hS145
 obtain ⟨a141, oa141, oc141, O141, T141, wa141, wc141, rs141, da141, dc141, l141, s141, g141, rfl, rfl, hle141, hO141, hT141, hE141, hrs141, hrl141, hGr141⟩ := hv141
 have hS146 : St _ _ [co k7 kw7 nd 0 (0 + 1) mb7 oa141 O141 oc141 T141, wk kw7 k4 wa141 wc141 rs141, dk k4 da141 dc141 l141 0 s141, .fz g141, _, _] _ := hS141; clear hS141
 have hGs141 := hGr141.2.1; have hGl141 := hGr141.2.2.1; have hGm141 := hGr141.2.2.2
 refine hK _ _ ?_; clear hK K
 obtain ⟨ea141, eT141, eO141, el141, es141⟩ := val5 hE141 (hear_none1 (m := (pickN x71.nd 16)) (by decide) (by omega) hnd _ _ _)
 subst ea141
 have eN141 := abs_nil eT141
 subst eN141
 have el141' := el141.symm; have es141' := es141.symm; subst el141' es141'
 have eO141 : O141.map Lo.l = [Lr.mk 6 nd (((pickN x71.nd 16) : Nat) : Int) nd []] := eO141
 have hol141 : O141.length = 1 := los_len eO141
 refine l_nil ?_
 refine hK140 _ _ ?_
 refine wp_seq_k (fun K147 hK147 => ?_)
 refine wp_region_lit ?_
 refine l_q rfl rfl (q_moveP rfl) ?_
 refine l_e rfl (fun K hK => ?_)
 have hS149 := hS146.fr3; clear hS146
 have hS150 := hS149.fr1; clear hS149
 refine e_call (by kernel_rfl) (out_ok k7 kw7 nd 0 (0 + 1) mb7 oa141 O141 oc141 [] hT141 g141 hO141 (by first | omega | (simp only [zll] <;> omega)) _ (St.begin (Γ := [_, _]) hS150)) rfl (after_M (Γ1 := [_, _]) hS150 (fun v148 G148 w148 hv148 hS148 => ?_))
 clear hS150
 obtain ⟨rfl, rfl⟩ := hv148
 have hS151 : St _ _ [.ow 42 5 oa141 O141.length oc141 (List.flatMap lo O141), _, .fz g141, _, dk k4 da141 dc141 l 0 s, _, _] _ := hS148; clear hS148
 refine hK _ _ ?_; clear hK K
 refine l_q rfl rfl (q_assignS rfl) ?_
 refine l_nil ?_
 refine hK147 _ _ ?_
 refine wp_seq_k (fun K152 hK152 => ?_)
 refine wp_region_lit ?_
 refine l_q rfl rfl (q_moveI rfl) ?_
 refine l_q rfl rfl (q_eql rfl rfl) ?_
 refine l_q rfl rfl (q_moveB rfl) ?_
 refine l_on rfl rfl (by decide) ?_
 refine l_q rfl rfl (q_moveI rfl) ?_
 refine l_on rfl rfl (by decide) ?_
 refine l_q rfl rfl (q_eql rfl rfl) ?_
 refine l_q rfl rfl (q_pickF rfl (by decide) rfl) ?_
 refine l_q rfl rfl (q_assignB rfl) ?_
 refine l_nil ?_
 refine hK152 _ _ ?_
 refine wp_seq_k (fun K153 hK153 => ?_)
 refine wp_region_lit ?_
 refine l_q rfl rfl (q_moveB rfl) ?_
 refine l_q rfl rfl (q_moveS rfl) ?_
 refine l_q rfl rfl (q_lenSl (e := 42) rfl (by kernel_rfl)) ?_
 refine l_q rfl rfl (q_bc (b := true) (decide_eq_true (by omega)) (q_eql rfl rfl)) ?_
 refine l_q rfl rfl (q_bool_neq rfl rfl (by kernel_rfl)) ?_
 refine l_q rfl rfl (q_moveB rfl) ?_
 refine l_on rfl rfl rfl ?_
 refine l_q rfl rfl (q_moveS rfl) ?_
 refine l_on rfl rfl rfl ?_
 refine l_q rfl rfl (q_lenSl (e := 42) rfl (by kernel_rfl)) ?_
 refine l_on rfl rfl rfl ?_
 refine l_q rfl rfl (q_bc (b := false) (decide_eq_false (by omega)) (q_gtr rfl rfl)) ?_
 refine l_q rfl rfl (q_pickF rfl rfl rfl) ?_
 refine l_q rfl rfl (q_moveB rfl) ?_
 refine l_on rfl rfl rfl ?_
 refine l_q rfl rfl (q_moveB rfl) ?_
 refine l_on rfl rfl rfl ?_
 refine l_q rfl rfl (q_moveB rfl) ?_
 refine l_on rfl rfl (by decide) ?_
 refine l_q rfl rfl (q_moveS rfl) ?_
 refine l_on rfl rfl (by decide) ?_
 refine l_q rfl rfl (q_ixG (e := 42) (m := 5) (j := 0) rfl rfl (by kernel_rfl) (by kernel_rfl) (by first | rfl | omega) (by omega) (hS151.owG (i := 0) rfl) (by rw [rows_len (c := lo) (m := 5) (fun _ => rfl)]; first | omega | (simp only [zll] <;> omega))) ?_
 refine l_on rfl rfl (by decide) ?_
 refine l_q rfl rfl (q_fieldG (ft := 40) (o := 0) rfl (by kernel_rfl)) ?_
 refine l_on rfl rfl (by decide) ?_
 obtain ⟨x154, hx154⟩ : ∃ x, (O141)[0]? = some x := ⟨_, List.getElem?_eq_getElem (by first | omega | (simp only [zll] <;> omega) | (simp <;> omega))⟩
 have hlx_x154 := (hO141 x154 (List.mem_of_getElem? hx154)).2
 refine l_q rfl rfl (q_load1 rfl (by kernel_rfl) (SlG.cell (hS151.owG (i := 0) rfl) (Gle.refl _) (row_at hx154 (c := lo) (m := 5) (fun _ => rfl) (j := 0) rfl))) ?_
 have hl1 : Lr.mk 6 nd (((pickN x71.nd 16) : Nat) : Int) nd [] = x154.l := Option.some.inj (los_at eO141 hx154)
 have hlk : x154.l.k = 6 := by rw [← hl1]
 have hlt : x154.l.t = (((pickN x71.nd 16) : Nat) : Int) := by rw [← hl1]
 refine l_on rfl rfl (by decide) ?_
 refine l_q rfl rfl (q_neq rfl rfl) ?_
 refine l_on rfl rfl (by decide) ?_
 refine l_q rfl rfl (q_moveB rfl) ?_
 refine g_splitL (t := 150) rfl (fun hg155 => ?_) (fun hg155 => ?_)
 have hg155b := hg155
 try simp only [zbb] at hg155
 exfalso; first | omega | exact hg155 trivial | exact absurd hg155 (by decide)
 have hg155b := hg155
 try simp only [zbb] at hg155
 refine l_on rfl rfl hg155b ?_
 refine l_q rfl rfl (q_moveS rfl) ?_
 refine l_on rfl rfl hg155b ?_
 refine l_q rfl rfl (q_ixG (e := 42) (m := 5) (j := 0) rfl rfl (by kernel_rfl) (by kernel_rfl) (by first | rfl | omega) (by omega) (hS151.owG (i := 0) rfl) (by rw [rows_len (c := lo) (m := 5) (fun _ => rfl)]; first | omega | (simp only [zll] <;> omega))) ?_
 refine l_on rfl rfl hg155b ?_
 refine l_q rfl rfl (q_fieldG (ft := 3) (o := 2) rfl (by kernel_rfl)) ?_
 refine l_on rfl rfl hg155b ?_
 refine l_q rfl rfl (q_load1 rfl (by kernel_rfl) (SlG.cell (hS151.owG (i := 0) rfl) (Gle.refl _) (row_at hx154 (c := lo) (m := 5) (fun _ => rfl) (j := 2) rfl))) ?_
 refine l_on rfl rfl hg155b ?_
 refine l_q rfl rfl (q_moveI rfl) ?_
 refine l_on rfl rfl hg155b ?_
 refine l_q rfl rfl (q_neq rfl rfl) ?_
 refine l_on rfl rfl (by decide) ?_
 refine l_q rfl rfl (q_pickF rfl hg155b rfl) ?_
 refine l_on rfl rfl rfl ?_
 refine l_q rfl rfl (q_pickT rfl (by decide) rfl) ?_
 refine l_q rfl rfl (q_pickF rfl rfl rfl) ?_
 refine l_q rfl rfl (q_moveB rfl) ?_
 refine g_splitL (t := 160) rfl (fun hg156 => ?_) (fun hg156 => ?_)
 have hg156b := hg156
 try simp only [zbb] at hg156
 exfalso; first | omega | exact hg156 trivial | exact absurd hg156 (by decide)
 have hg156b := hg156
 try simp only [zbb] at hg156
 refine l_on rfl rfl hg156b ?_
 refine l_q rfl rfl (q_moveP rfl) ?_
 refine l_on rfl rfl hg156b ?_
 refine l_q rfl rfl (q_moveI rfl) ?_
 refine l_on rfl rfl hg156b ?_
 refine l_e rfl (fun K hK => ?_)
 have hS158 := hS151.fr2; clear hS151
 have hS159 := hS158.fr2; clear hS158
 refine e_call (by kernel_rfl) (state_any k7 kw7 nd 0 (0 + 1) mb7 none [] 0 [] hT141 g141 LOk.nil (by first | omega | (simp only [zll] <;> omega)) nd _ (St.begin (Γ := [_, _]) hS159)) rfl (after_M (Γ1 := [_, _]) hS159 (fun v157 G157 w157 hv157 hS157 => ?_))
 clear hS159
 obtain ⟨a157, rfl, rfl, hE157⟩ := hv157
 have hS160 : St _ _ [_, .fz g141, _, _, _, _, _] _ := hS157; clear hS157
 refine hK _ _ ?_; clear hK K
 have ha157 : a157 = 0 := hE157.symm.trans (sta_nil _)
 subst ha157
 refine l_on rfl rfl hg156b ?_
 refine l_q rfl rfl (q_neq rfl rfl) ?_
 refine l_q rfl rfl (q_pickF rfl hg156b rfl) ?_
 refine l_nil ?_
 refine hK153 _ _ ?_
 refine c_condF rfl (by decide) ?_
 refine wp_skip ?_
 refine hK69 _ _ ?_
 refine wp_region_lit ?_
 refine l_q rfl rfl (q_moveI rfl) ?_
 refine l_q rfl rfl (q_addx rfl rfl (by first | decide | omega) (by first | decide | omega)) ?_
 refine l_q rfl rfl (q_assignI rfl) ?_
 refine l_nil ?_
 have hS162 := hS160.fr6; clear hS160
 have hS163 := hS162.fr2; clear hS162
 have hS164 := hS163.fr5; clear hS163
 have hS165 := hS164.fr5; clear hS164
 have hS166 := hS165.fr4; clear hS165
 have hS167 : St _ _ [_, _, _, .fz g141, _] _ := hS166.only 5; clear hS166
 refine hK64 _ _ (came (⟨(i + 1), wa141, wc141, rs141, da141, dc141, l, s, g141⟩) (by repeat' (first | exact Agree.refl _ _ | refine Agree.up ?_ rfl | refine Agree.hav2 ?_ rfl | refine Agree.ups2 ?_ rfl)) (by repeat' (first | exact trivial | refine ⟨by first | rfl | exact int_succ _ | assumption, ?_⟩)) ?_)
 exact ⟨⟨hS167, (by show i + 1 ≤ vs.length; omega), hg0.trans (by first | exact hle141 | skip), hrs141, (by show rs141.length ≤ 3 + (i + 1); omega), hl, hsl, hll⟩, by (show vs.length - (i + 1) < vs.length - i); omega⟩
 have hc139b := hc139
 try simp only [zbb] at hc139
 refine wp_skip ?_
 refine hK137 _ _ ?_
 refine wp_seq_k (fun K168 hK168 => ?_)
 refine wp_region_lit ?_
 refine l_q rfl rfl (q_moveP rfl) ?_
 refine l_q rfl rfl (q_moveI rfl) ?_
 refine l_q rfl rfl (q_moveI rfl) ?_
 refine l_q rfl rfl (q_moveI rfl) ?_
 refine l_q rfl rfl (q_moveI rfl) ?_
 refine l_q rfl rfl (q_build (ps := [(0, 1), (1, 1), (2, 1), (3, 1), (4, 1)]) (zv := .agg #[.int .i64 0, .int .i64 0, .int .i64 0, .int .i64 0, .slice none 0 0]) (by kernel_rfl) (by kernel_rfl) rfl (by repeat' (first | exact trivial | refine ⟨fun _ => by first | rfl | assumption | exact one_if (by assumption), ?_⟩ | refine ⟨fun ⟨_, h⟩ => by simp at h, ?_⟩)) rfl) ?_
 refine l_e rfl (fun K hK => ?_)
 have hS170 := hS77.fr4; clear hS77
 have hS171 := hS170.fr4; clear hS170
 have hS172 := hS171.fr4; clear hS171
 have hS173 := hS172.fr4; clear hS172
 refine e_call (by kernel_rfl) (hear_any k7 kw7 nd 0 (0 + 1) mb7 none [] 0 [] TOk.nil g LOk.nil (by first | omega | (simp only [zll] <;> omega)) k4 wa wc rs da dc l 0 s (by first | omega | (simp only [zll] <;> omega)) hl (by first | omega | (simp only [zll] <;> omega)) (by first | omega | (simp only [zll] <;> omega)) hR (Lr.mk (4 : Int) (((pickN x71.nd 16) : Nat) : Int) nd nd []) none 0 0 rfl (by first | omega | (simp only [zll] <;> omega)) _ _ ((fun _ _ e => by cases e) : Rog [_, _, _, _] _ (fun _ => none)) SlG.nil (St.begin (Γ := [_, _, _, _]) hS173)) rfl (after_M (Γ1 := [_, _, _, _]) hS173 (fun v169 G169 w169 hv169 hS169 => ?_))
 clear hS173
 obtain ⟨a169, oa169, oc169, O169, T169, wa169, wc169, rs169, da169, dc169, l169, s169, g169, rfl, rfl, hle169, hO169, hT169, hE169, hrs169, hrl169, hGr169⟩ := hv169
 have hS174 : St _ _ [co k7 kw7 nd 0 (0 + 1) mb7 oa169 O169 oc169 T169, wk kw7 k4 wa169 wc169 rs169, dk k4 da169 dc169 l169 0 s169, .fz g169, _, _] _ := hS169; clear hS169
 have hGs169 := hGr169.2.1; have hGl169 := hGr169.2.2.1; have hGm169 := hGr169.2.2.2
 refine hK _ _ ?_; clear hK K
 obtain ⟨ea169, eT169, eO169, el169, es169⟩ := val5 hE169 (hear_none0 (m := (pickN x71.nd 16)) (by decide) (by decide) (by omega) hnd _ _ _)
 subst ea169
 have eN169 := abs_nil eT169
 subst eN169
 have eM169 := los_nil eO169
 subst eM169
 have el169' := el169.symm; have es169' := es169.symm; subst el169' es169'
 refine l_nil ?_
 refine hK168 _ _ ?_
 refine wp_seq_k (fun K175 hK175 => ?_)
 refine wp_region_lit ?_
 refine l_q rfl rfl (q_moveP rfl) ?_
 refine l_e rfl (fun K hK => ?_)
 have hS177 := hS174.fr3; clear hS174
 have hS178 := hS177.fr1; clear hS177
 refine e_call (by kernel_rfl) (out_ok k7 kw7 nd 0 (0 + 1) mb7 oa169 [] oc169 [] hT169 g169 hO169 (by first | omega | (simp only [zll] <;> omega)) _ (St.begin (Γ := [_, _]) hS178)) rfl (after_M (Γ1 := [_, _]) hS178 (fun v176 G176 w176 hv176 hS176 => ?_))
 clear hS178
 obtain ⟨rfl, rfl⟩ := hv176
 have hS179 : St _ _ [.ow 42 5 oa169 ([].length) oc169 (List.flatMap lo []), _, .fz g169, _, dk k4 da169 dc169 l 0 s, _, _] _ := hS176; clear hS176
 refine hK _ _ ?_; clear hK K
 refine l_q rfl rfl (q_assignS rfl) ?_
 refine l_nil ?_
 refine hK175 _ _ ?_
 refine wp_seq_k (fun K180 hK180 => ?_)
 refine wp_region_lit ?_
 refine l_q rfl rfl (q_moveI rfl) ?_
 refine l_q rfl rfl (q_eql rfl rfl) ?_
 refine l_q rfl rfl (q_moveB rfl) ?_
 refine l_on rfl rfl (by decide) ?_
 refine l_q rfl rfl (q_moveI rfl) ?_
 refine l_on rfl rfl (by decide) ?_
 refine l_q rfl rfl (q_eql rfl rfl) ?_
 refine l_q rfl rfl (q_pickF rfl (by decide) rfl) ?_
 refine l_q rfl rfl (q_assignB rfl) ?_
 refine l_nil ?_
 refine hK180 _ _ ?_
 refine wp_seq_k (fun K181 hK181 => ?_)
 refine wp_region_lit ?_
 refine l_q rfl rfl (q_moveB rfl) ?_
 refine l_q rfl rfl (q_moveS rfl) ?_
 refine l_q rfl rfl (q_lenSl (e := 42) rfl (by kernel_rfl)) ?_
 refine l_q rfl rfl (q_bc (b := false) (decide_eq_false (by decide)) (q_eql rfl rfl)) ?_
 refine l_q rfl rfl (q_bool_neq rfl rfl (by kernel_rfl)) ?_
 refine l_q rfl rfl (q_moveB rfl) ?_
 refine l_on rfl rfl rfl ?_
 refine l_q rfl rfl (q_moveS rfl) ?_
 refine l_on rfl rfl rfl ?_
 refine l_q rfl rfl (q_lenSl (e := 42) rfl (by kernel_rfl)) ?_
 refine l_on rfl rfl rfl ?_
 refine l_q rfl rfl (q_bc (b := false) (decide_eq_false (by decide)) (q_gtr rfl rfl)) ?_
 refine l_q rfl rfl (q_pickF rfl rfl rfl) ?_
 refine l_q rfl rfl (q_moveB rfl) ?_
 refine l_on rfl rfl rfl ?_
 refine l_q rfl rfl (q_moveB rfl) ?_
 refine l_on rfl rfl rfl ?_
 refine l_q rfl rfl (q_moveB rfl) ?_
 refine l_off rfl rfl rfl (by decide) ?_
 refine l_off rfl rfl rfl (by decide) ?_
 refine l_off rfl rfl rfl (by decide) ?_
 refine l_off rfl rfl rfl (by decide) ?_
 refine l_off rfl rfl rfl (by decide) ?_
 refine l_off rfl rfl rfl (by decide) ?_
 refine l_offN rfl rfl rfl ?_
 refine l_offN rfl rfl rfl ?_
 refine l_offN rfl rfl rfl ?_
 refine l_offN rfl rfl rfl ?_
 refine l_offN rfl rfl rfl ?_
 refine l_offN rfl rfl rfl ?_
 refine l_off rfl rfl rfl (by decide) ?_
 refine l_on rfl rfl rfl ?_
 refine l_q rfl rfl (q_pickF rfl (by decide) rfl) ?_
 refine l_q rfl rfl (q_pickF rfl rfl rfl) ?_
 refine l_q rfl rfl (q_moveB rfl) ?_
 refine l_on rfl rfl rfl ?_
 refine l_q rfl rfl (q_moveP rfl) ?_
 refine l_on rfl rfl rfl ?_
 refine l_q rfl rfl (q_moveI rfl) ?_
 refine l_on rfl rfl rfl ?_
 refine l_e rfl (fun K hK => ?_)
 have hS183 := hS179.fr2; clear hS179
 have hS184 := hS183.fr2; clear hS183
 refine e_call (by kernel_rfl) (state_any k7 kw7 nd 0 (0 + 1) mb7 none [] 0 [] hT169 g169 LOk.nil (by first | omega | (simp only [zll] <;> omega)) nd _ (St.begin (Γ := [_, _]) hS184)) rfl (after_M (Γ1 := [_, _]) hS184 (fun v182 G182 w182 hv182 hS182 => ?_))
 clear hS184
 obtain ⟨a182, rfl, rfl, hE182⟩ := hv182
 have hS185 : St _ _ [_, .fz g169, _, _, _, _, _] _ := hS182; clear hS182
 refine hK _ _ ?_; clear hK K
 have ha182 : a182 = 0 := hE182.symm.trans (sta_nil _)
 subst ha182
 refine l_on rfl rfl rfl ?_
 refine l_q rfl rfl (q_neq rfl rfl) ?_
 refine l_q rfl rfl (q_pickF rfl rfl rfl) ?_
 refine l_nil ?_
 refine hK181 _ _ ?_
 refine c_condF rfl (by decide) ?_
 refine wp_skip ?_
 refine hK69 _ _ ?_
 refine wp_region_lit ?_
 refine l_q rfl rfl (q_moveI rfl) ?_
 refine l_q rfl rfl (q_addx rfl rfl (by first | decide | omega) (by first | decide | omega)) ?_
 refine l_q rfl rfl (q_assignI rfl) ?_
 refine l_nil ?_
 have hS187 := hS185.fr6; clear hS185
 have hS188 := hS187.fr2; clear hS187
 have hS189 := hS188.fr5; clear hS188
 have hS190 := hS189.fr5; clear hS189
 have hS191 := hS190.fr4; clear hS190
 have hS192 : St _ _ [_, _, _, .fz g169, _] _ := hS191.only 5; clear hS191
 refine hK64 _ _ (came (⟨(i + 1), wa169, wc169, rs169, da169, dc169, l, s, g169⟩) (by repeat' (first | exact Agree.refl _ _ | refine Agree.up ?_ rfl | refine Agree.hav2 ?_ rfl | refine Agree.ups2 ?_ rfl)) (by repeat' (first | exact trivial | refine ⟨by first | rfl | exact int_succ _ | assumption, ?_⟩)) ?_)
 exact ⟨⟨hS192, (by show i + 1 ≤ vs.length; omega), hg0.trans (by first | exact hle169 | skip), hrs169, (by show rs169.length ≤ 3 + (i + 1); omega), hl, hsl, hll⟩, by (show vs.length - (i + 1) < vs.length - i); omega⟩
 rw [hkk]
 refine l_q rfl rfl (q_assignI rfl) ?_
 refine l_nil ?_
 refine hK76 _ _ ?_
 refine wp_seq_k (fun K193 hK193 => ?_)
 refine wp_seq_k (fun K194 hK194 => ?_)
 refine wp_region_lit ?_
 refine l_q rfl rfl (q_fieldAddr (ft := 4) (o := 2) rfl (by kernel_rfl)) ?_
 refine l_q rfl rfl (q_load1 rfl (by kernel_rfl) (hS77.cell (i := 0) rfl rfl)) ?_
 refine l_nil ?_
 refine hK194 _ _ ?_
 refine c_cond rfl (fun hc195 => ?_) (fun hc195 => ?_)
 have hc195b := hc195
 try simp only [zbb] at hc195
 refine wp_region_lit ?_
 refine l_q rfl rfl (q_assignI rfl) ?_
 refine l_nil ?_
 refine hK193 _ _ ?_
 refine wp_seq_k (fun K196 hK196 => ?_)
 refine wp_region_lit ?_
 refine l_q rfl rfl (q_moveP rfl) ?_
 refine l_q rfl rfl (q_moveI rfl) ?_
 refine l_q rfl rfl (q_moveI rfl) ?_
 refine l_q rfl rfl (q_moveI rfl) ?_
 refine l_q rfl rfl (q_moveI rfl) ?_
 refine l_q rfl rfl (q_build (ps := [(0, 1), (1, 1), (2, 1), (3, 1), (4, 1)]) (zv := .agg #[.int .i64 0, .int .i64 0, .int .i64 0, .int .i64 0, .slice none 0 0]) (by kernel_rfl) (by kernel_rfl) rfl (by repeat' (first | exact trivial | refine ⟨fun _ => by first | rfl | assumption | exact one_if (by assumption), ?_⟩ | refine ⟨fun ⟨_, h⟩ => by simp at h, ?_⟩)) rfl) ?_
 refine l_e rfl (fun K hK => ?_)
 have hS198 := hS77.fr4; clear hS77
 have hS199 := hS198.fr4; clear hS198
 have hS200 := hS199.fr4; clear hS199
 have hS201 := hS200.fr4; clear hS200
 refine e_call (by kernel_rfl) (hear_any k7 kw7 nd 0 (0 + 1) mb7 none [] 0 [] TOk.nil g LOk.nil (by first | omega | (simp only [zll] <;> omega)) k4 wa wc rs da dc l 0 s (by first | omega | (simp only [zll] <;> omega)) hl (by first | omega | (simp only [zll] <;> omega)) (by first | omega | (simp only [zll] <;> omega)) hR (Lr.mk (8 : Int) (((pickN x71.nd 16) : Nat) : Int) nd nd []) none 0 0 rfl (by first | omega | (simp only [zll] <;> omega)) _ _ ((fun _ _ e => by cases e) : Rog [_, _, _, _] _ (fun _ => none)) SlG.nil (St.begin (Γ := [_, _, _, _]) hS201)) rfl (after_M (Γ1 := [_, _, _, _]) hS201 (fun v197 G197 w197 hv197 hS197 => ?_))
 clear hS201
 obtain ⟨a197, oa197, oc197, O197, T197, wa197, wc197, rs197, da197, dc197, l197, s197, g197, rfl, rfl, hle197, hO197, hT197, hE197, hrs197, hrl197, hGr197⟩ := hv197
 have hS202 : St _ _ [co k7 kw7 nd 0 (0 + 1) mb7 oa197 O197 oc197 T197, wk kw7 k4 wa197 wc197 rs197, dk k4 da197 dc197 l197 0 s197, .fz g197, _, _] _ := hS197; clear hS197
 have hGs197 := hGr197.2.1; have hGl197 := hGr197.2.2.1; have hGm197 := hGr197.2.2.2
 refine hK _ _ ?_; clear hK K
 obtain ⟨ea197, eT197, eO197, el197, es197⟩ := val5 hE197 (hear_none1 (m := (pickN x71.nd 16)) (by decide) (by omega) hnd _ _ _)
 subst ea197
 have eN197 := abs_nil eT197
 subst eN197
 have el197' := el197.symm; have es197' := es197.symm; subst el197' es197'
 have eO197 : O197.map Lo.l = [Lr.mk 6 nd (((pickN x71.nd 16) : Nat) : Int) nd []] := eO197
 have hol197 : O197.length = 1 := los_len eO197
 refine l_nil ?_
 refine hK196 _ _ ?_
 refine wp_seq_k (fun K203 hK203 => ?_)
 refine wp_region_lit ?_
 refine l_q rfl rfl (q_moveP rfl) ?_
 refine l_e rfl (fun K hK => ?_)
 have hS205 := hS202.fr3; clear hS202
 have hS206 := hS205.fr1; clear hS205
 refine e_call (by kernel_rfl) (out_ok k7 kw7 nd 0 (0 + 1) mb7 oa197 O197 oc197 [] hT197 g197 hO197 (by first | omega | (simp only [zll] <;> omega)) _ (St.begin (Γ := [_, _]) hS206)) rfl (after_M (Γ1 := [_, _]) hS206 (fun v204 G204 w204 hv204 hS204 => ?_))
 clear hS206
 obtain ⟨rfl, rfl⟩ := hv204
 have hS207 : St _ _ [.ow 42 5 oa197 O197.length oc197 (List.flatMap lo O197), _, .fz g197, _, dk k4 da197 dc197 l 0 s, _, _] _ := hS204; clear hS204
 refine hK _ _ ?_; clear hK K
 refine l_q rfl rfl (q_assignS rfl) ?_
 refine l_nil ?_
 refine hK203 _ _ ?_
 refine wp_seq_k (fun K208 hK208 => ?_)
 refine wp_region_lit ?_
 refine l_q rfl rfl (q_moveI rfl) ?_
 refine l_q rfl rfl (q_eql rfl rfl) ?_
 refine l_q rfl rfl (q_moveB rfl) ?_
 refine l_on rfl rfl (by decide) ?_
 refine l_q rfl rfl (q_moveI rfl) ?_
 refine l_on rfl rfl (by decide) ?_
 refine l_q rfl rfl (q_eql rfl rfl) ?_
 refine l_q rfl rfl (q_pickF rfl (by decide) rfl) ?_
 refine l_q rfl rfl (q_assignB rfl) ?_
 refine l_nil ?_
 refine hK208 _ _ ?_
 refine wp_seq_k (fun K209 hK209 => ?_)
 refine wp_region_lit ?_
 refine l_q rfl rfl (q_moveB rfl) ?_
 refine l_q rfl rfl (q_moveS rfl) ?_
 refine l_q rfl rfl (q_lenSl (e := 42) rfl (by kernel_rfl)) ?_
 refine l_q rfl rfl (q_bc (b := true) (decide_eq_true (by omega)) (q_eql rfl rfl)) ?_
 refine l_q rfl rfl (q_bool_neq rfl rfl (by kernel_rfl)) ?_
 refine l_q rfl rfl (q_moveB rfl) ?_
 refine l_on rfl rfl rfl ?_
 refine l_q rfl rfl (q_moveS rfl) ?_
 refine l_on rfl rfl rfl ?_
 refine l_q rfl rfl (q_lenSl (e := 42) rfl (by kernel_rfl)) ?_
 refine l_on rfl rfl rfl ?_
 refine l_q rfl rfl (q_bc (b := false) (decide_eq_false (by omega)) (q_gtr rfl rfl)) ?_
 refine l_q rfl rfl (q_pickF rfl rfl rfl) ?_
 refine l_q rfl rfl (q_moveB rfl) ?_
 refine l_on rfl rfl rfl ?_
 refine l_q rfl rfl (q_moveB rfl) ?_
 refine l_on rfl rfl rfl ?_
 refine l_q rfl rfl (q_moveB rfl) ?_
 refine l_on rfl rfl (by decide) ?_
 refine l_q rfl rfl (q_moveS rfl) ?_
 refine l_on rfl rfl (by decide) ?_
 refine l_q rfl rfl (q_ixG (e := 42) (m := 5) (j := 0) rfl rfl (by kernel_rfl) (by kernel_rfl) (by first | rfl | omega) (by omega) (hS207.owG (i := 0) rfl) (by rw [rows_len (c := lo) (m := 5) (fun _ => rfl)]; first | omega | (simp only [zll] <;> omega))) ?_
 refine l_on rfl rfl (by decide) ?_
 refine l_q rfl rfl (q_fieldG (ft := 40) (o := 0) rfl (by kernel_rfl)) ?_
 refine l_on rfl rfl (by decide) ?_
 obtain ⟨x210, hx210⟩ : ∃ x, (O197)[0]? = some x := ⟨_, List.getElem?_eq_getElem (by first | omega | (simp only [zll] <;> omega) | (simp <;> omega))⟩
 have hlx_x210 := (hO197 x210 (List.mem_of_getElem? hx210)).2
 refine l_q rfl rfl (q_load1 rfl (by kernel_rfl) (SlG.cell (hS207.owG (i := 0) rfl) (Gle.refl _) (row_at hx210 (c := lo) (m := 5) (fun _ => rfl) (j := 0) rfl))) ?_
 have hl1 : Lr.mk 6 nd (((pickN x71.nd 16) : Nat) : Int) nd [] = x210.l := Option.some.inj (los_at eO197 hx210)
 have hlk : x210.l.k = 6 := by rw [← hl1]
 have hlt : x210.l.t = (((pickN x71.nd 16) : Nat) : Int) := by rw [← hl1]
 refine l_on rfl rfl (by decide) ?_
 refine l_q rfl rfl (q_neq rfl rfl) ?_
 refine l_on rfl rfl (by decide) ?_
 refine l_q rfl rfl (q_moveB rfl) ?_
 refine g_splitL (t := 150) rfl (fun hg211 => ?_) (fun hg211 => ?_)
 have hg211b := hg211
 try simp only [zbb] at hg211
 exfalso; first | omega | exact hg211 trivial | exact absurd hg211 (by decide)
 have hg211b := hg211
 try simp only [zbb] at hg211
 refine l_on rfl rfl hg211b ?_
 refine l_q rfl rfl (q_moveS rfl) ?_
 refine l_on rfl rfl hg211b ?_
 refine l_q rfl rfl (q_ixG (e := 42) (m := 5) (j := 0) rfl rfl (by kernel_rfl) (by kernel_rfl) (by first | rfl | omega) (by omega) (hS207.owG (i := 0) rfl) (by rw [rows_len (c := lo) (m := 5) (fun _ => rfl)]; first | omega | (simp only [zll] <;> omega))) ?_
 refine l_on rfl rfl hg211b ?_
 refine l_q rfl rfl (q_fieldG (ft := 3) (o := 2) rfl (by kernel_rfl)) ?_
 refine l_on rfl rfl hg211b ?_
 refine l_q rfl rfl (q_load1 rfl (by kernel_rfl) (SlG.cell (hS207.owG (i := 0) rfl) (Gle.refl _) (row_at hx210 (c := lo) (m := 5) (fun _ => rfl) (j := 2) rfl))) ?_
 refine l_on rfl rfl hg211b ?_
 refine l_q rfl rfl (q_moveI rfl) ?_
 refine l_on rfl rfl hg211b ?_
 refine l_q rfl rfl (q_neq rfl rfl) ?_
 refine l_on rfl rfl (by decide) ?_
 refine l_q rfl rfl (q_pickF rfl hg211b rfl) ?_
 refine l_on rfl rfl rfl ?_
 refine l_q rfl rfl (q_pickT rfl (by decide) rfl) ?_
 refine l_q rfl rfl (q_pickF rfl rfl rfl) ?_
 refine l_q rfl rfl (q_moveB rfl) ?_
 refine g_splitL (t := 160) rfl (fun hg212 => ?_) (fun hg212 => ?_)
 have hg212b := hg212
 try simp only [zbb] at hg212
 exfalso; first | omega | exact hg212 trivial | exact absurd hg212 (by decide)
 have hg212b := hg212
 try simp only [zbb] at hg212
 refine l_on rfl rfl hg212b ?_
 refine l_q rfl rfl (q_moveP rfl) ?_
 refine l_on rfl rfl hg212b ?_
 refine l_q rfl rfl (q_moveI rfl) ?_
 refine l_on rfl rfl hg212b ?_
 refine l_e rfl (fun K hK => ?_)
 have hS214 := hS207.fr2; clear hS207
 have hS215 := hS214.fr2; clear hS214
 refine e_call (by kernel_rfl) (state_any k7 kw7 nd 0 (0 + 1) mb7 none [] 0 [] hT197 g197 LOk.nil (by first | omega | (simp only [zll] <;> omega)) nd _ (St.begin (Γ := [_, _]) hS215)) rfl (after_M (Γ1 := [_, _]) hS215 (fun v213 G213 w213 hv213 hS213 => ?_))
 clear hS215
 obtain ⟨a213, rfl, rfl, hE213⟩ := hv213
 have hS216 : St _ _ [_, .fz g197, _, _, _, _, _] _ := hS213; clear hS213
 refine hK _ _ ?_; clear hK K
 have ha213 : a213 = 0 := hE213.symm.trans (sta_nil _)
 subst ha213
 refine l_on rfl rfl hg212b ?_
 refine l_q rfl rfl (q_neq rfl rfl) ?_
 refine l_q rfl rfl (q_pickF rfl hg212b rfl) ?_
 refine l_nil ?_
 refine hK209 _ _ ?_
 refine c_condF rfl (by decide) ?_
 refine wp_skip ?_
 refine hK69 _ _ ?_
 refine wp_region_lit ?_
 refine l_q rfl rfl (q_moveI rfl) ?_
 refine l_q rfl rfl (q_addx rfl rfl (by first | decide | omega) (by first | decide | omega)) ?_
 refine l_q rfl rfl (q_assignI rfl) ?_
 refine l_nil ?_
 have hS218 := hS216.fr6; clear hS216
 have hS219 := hS218.fr2; clear hS218
 have hS220 := hS219.fr5; clear hS219
 have hS221 := hS220.fr5; clear hS220
 have hS222 := hS221.fr4; clear hS221
 have hS223 : St _ _ [_, _, _, .fz g197, _] _ := hS222.only 5; clear hS222
 refine hK64 _ _ (came (⟨(i + 1), wa197, wc197, rs197, da197, dc197, l, s, g197⟩) (by repeat' (first | exact Agree.refl _ _ | refine Agree.up ?_ rfl | refine Agree.hav2 ?_ rfl | refine Agree.ups2 ?_ rfl)) (by repeat' (first | exact trivial | refine ⟨by first | rfl | exact int_succ _ | assumption, ?_⟩)) ?_)
 exact ⟨⟨hS223, (by show i + 1 ≤ vs.length; omega), hg0.trans (by first | exact hle197 | skip), hrs197, (by show rs197.length ≤ 3 + (i + 1); omega), hl, hsl, hll⟩, by (show vs.length - (i + 1) < vs.length - i); omega⟩
 have hc195b := hc195
 try simp only [zbb] at hc195
 refine wp_skip ?_
 refine hK193 _ _ ?_
 refine wp_seq_k (fun K224 hK224 => ?_)
 refine wp_region_lit ?_
 refine l_q rfl rfl (q_moveP rfl) ?_
 refine l_q rfl rfl (q_moveI rfl) ?_
 refine l_q rfl rfl (q_moveI rfl) ?_
 refine l_q rfl rfl (q_moveI rfl) ?_
 refine l_q rfl rfl (q_moveI rfl) ?_
 refine l_q rfl rfl (q_build (ps := [(0, 1), (1, 1), (2, 1), (3, 1), (4, 1)]) (zv := .agg #[.int .i64 0, .int .i64 0, .int .i64 0, .int .i64 0, .slice none 0 0]) (by kernel_rfl) (by kernel_rfl) rfl (by repeat' (first | exact trivial | refine ⟨fun _ => by first | rfl | assumption | exact one_if (by assumption), ?_⟩ | refine ⟨fun ⟨_, h⟩ => by simp at h, ?_⟩)) rfl) ?_
 refine l_e rfl (fun K hK => ?_)
 have hS226 := hS77.fr4; clear hS77
 have hS227 := hS226.fr4; clear hS226
 have hS228 := hS227.fr4; clear hS227
 have hS229 := hS228.fr4; clear hS228
 refine e_call (by kernel_rfl) (hear_any k7 kw7 nd 0 (0 + 1) mb7 none [] 0 [] TOk.nil g LOk.nil (by first | omega | (simp only [zll] <;> omega)) k4 wa wc rs da dc l 0 s (by first | omega | (simp only [zll] <;> omega)) hl (by first | omega | (simp only [zll] <;> omega)) (by first | omega | (simp only [zll] <;> omega)) hR (Lr.mk (3 : Int) (((pickN x71.nd 16) : Nat) : Int) nd nd []) none 0 0 rfl (by first | omega | (simp only [zll] <;> omega)) _ _ ((fun _ _ e => by cases e) : Rog [_, _, _, _] _ (fun _ => none)) SlG.nil (St.begin (Γ := [_, _, _, _]) hS229)) rfl (after_M (Γ1 := [_, _, _, _]) hS229 (fun v225 G225 w225 hv225 hS225 => ?_))
 clear hS229
 obtain ⟨a225, oa225, oc225, O225, T225, wa225, wc225, rs225, da225, dc225, l225, s225, g225, rfl, rfl, hle225, hO225, hT225, hE225, hrs225, hrl225, hGr225⟩ := hv225
 have hS230 : St _ _ [co k7 kw7 nd 0 (0 + 1) mb7 oa225 O225 oc225 T225, wk kw7 k4 wa225 wc225 rs225, dk k4 da225 dc225 l225 0 s225, .fz g225, _, _] _ := hS225; clear hS225
 have hGs225 := hGr225.2.1; have hGl225 := hGr225.2.2.1; have hGm225 := hGr225.2.2.2
 refine hK _ _ ?_; clear hK K
 obtain ⟨ea225, eT225, eO225, el225, es225⟩ := val5 hE225 (hear_none0 (m := (pickN x71.nd 16)) (by decide) (by decide) (by omega) hnd _ _ _)
 subst ea225
 have eN225 := abs_nil eT225
 subst eN225
 have eM225 := los_nil eO225
 subst eM225
 have el225' := el225.symm; have es225' := es225.symm; subst el225' es225'
 refine l_nil ?_
 refine hK224 _ _ ?_
 refine wp_seq_k (fun K231 hK231 => ?_)
 refine wp_region_lit ?_
 refine l_q rfl rfl (q_moveP rfl) ?_
 refine l_e rfl (fun K hK => ?_)
 have hS233 := hS230.fr3; clear hS230
 have hS234 := hS233.fr1; clear hS233
 refine e_call (by kernel_rfl) (out_ok k7 kw7 nd 0 (0 + 1) mb7 oa225 [] oc225 [] hT225 g225 hO225 (by first | omega | (simp only [zll] <;> omega)) _ (St.begin (Γ := [_, _]) hS234)) rfl (after_M (Γ1 := [_, _]) hS234 (fun v232 G232 w232 hv232 hS232 => ?_))
 clear hS234
 obtain ⟨rfl, rfl⟩ := hv232
 have hS235 : St _ _ [.ow 42 5 oa225 ([].length) oc225 (List.flatMap lo []), _, .fz g225, _, dk k4 da225 dc225 l 0 s, _, _] _ := hS232; clear hS232
 refine hK _ _ ?_; clear hK K
 refine l_q rfl rfl (q_assignS rfl) ?_
 refine l_nil ?_
 refine hK231 _ _ ?_
 refine wp_seq_k (fun K236 hK236 => ?_)
 refine wp_region_lit ?_
 refine l_q rfl rfl (q_moveI rfl) ?_
 refine l_q rfl rfl (q_eql rfl rfl) ?_
 refine l_q rfl rfl (q_moveB rfl) ?_
 refine l_on rfl rfl (by decide) ?_
 refine l_q rfl rfl (q_moveI rfl) ?_
 refine l_on rfl rfl (by decide) ?_
 refine l_q rfl rfl (q_eql rfl rfl) ?_
 refine l_q rfl rfl (q_pickF rfl (by decide) rfl) ?_
 refine l_q rfl rfl (q_assignB rfl) ?_
 refine l_nil ?_
 refine hK236 _ _ ?_
 refine wp_seq_k (fun K237 hK237 => ?_)
 refine wp_region_lit ?_
 refine l_q rfl rfl (q_moveB rfl) ?_
 refine l_q rfl rfl (q_moveS rfl) ?_
 refine l_q rfl rfl (q_lenSl (e := 42) rfl (by kernel_rfl)) ?_
 refine l_q rfl rfl (q_bc (b := false) (decide_eq_false (by decide)) (q_eql rfl rfl)) ?_
 refine l_q rfl rfl (q_bool_neq rfl rfl (by kernel_rfl)) ?_
 refine l_q rfl rfl (q_moveB rfl) ?_
 refine l_on rfl rfl rfl ?_
 refine l_q rfl rfl (q_moveS rfl) ?_
 refine l_on rfl rfl rfl ?_
 refine l_q rfl rfl (q_lenSl (e := 42) rfl (by kernel_rfl)) ?_
 refine l_on rfl rfl rfl ?_
 refine l_q rfl rfl (q_bc (b := false) (decide_eq_false (by decide)) (q_gtr rfl rfl)) ?_
 refine l_q rfl rfl (q_pickF rfl rfl rfl) ?_
 refine l_q rfl rfl (q_moveB rfl) ?_
 refine l_on rfl rfl rfl ?_
 refine l_q rfl rfl (q_moveB rfl) ?_
 refine l_on rfl rfl rfl ?_
 refine l_q rfl rfl (q_moveB rfl) ?_
 refine l_off rfl rfl rfl (by decide) ?_
 refine l_off rfl rfl rfl (by decide) ?_
 refine l_off rfl rfl rfl (by decide) ?_
 refine l_off rfl rfl rfl (by decide) ?_
 refine l_off rfl rfl rfl (by decide) ?_
 refine l_off rfl rfl rfl (by decide) ?_
 refine l_offN rfl rfl rfl ?_
 refine l_offN rfl rfl rfl ?_
 refine l_offN rfl rfl rfl ?_
 refine l_offN rfl rfl rfl ?_
 refine l_offN rfl rfl rfl ?_
 refine l_offN rfl rfl rfl ?_
 refine l_off rfl rfl rfl (by decide) ?_
 refine l_on rfl rfl rfl ?_
 refine l_q rfl rfl (q_pickF rfl (by decide) rfl) ?_
 refine l_q rfl rfl (q_pickF rfl rfl rfl) ?_
 refine l_q rfl rfl (q_moveB rfl) ?_
 refine l_on rfl rfl rfl ?_
 refine l_q rfl rfl (q_moveP rfl) ?_
 refine l_on rfl rfl rfl ?_
 refine l_q rfl rfl (q_moveI rfl) ?_
 refine l_on rfl rfl rfl ?_
 refine l_e rfl (fun K hK => ?_)
 have hS239 := hS235.fr2; clear hS235
 have hS240 := hS239.fr2; clear hS239
 refine e_call (by kernel_rfl) (state_any k7 kw7 nd 0 (0 + 1) mb7 none [] 0 [] hT225 g225 LOk.nil (by first | omega | (simp only [zll] <;> omega)) nd _ (St.begin (Γ := [_, _]) hS240)) rfl (after_M (Γ1 := [_, _]) hS240 (fun v238 G238 w238 hv238 hS238 => ?_))
 clear hS240
 obtain ⟨a238, rfl, rfl, hE238⟩ := hv238
 have hS241 : St _ _ [_, .fz g225, _, _, _, _, _] _ := hS238; clear hS238
 refine hK _ _ ?_; clear hK K
 have ha238 : a238 = 0 := hE238.symm.trans (sta_nil _)
 subst ha238
 refine l_on rfl rfl rfl ?_
 refine l_q rfl rfl (q_neq rfl rfl) ?_
 refine l_q rfl rfl (q_pickF rfl rfl rfl) ?_
 refine l_nil ?_
 refine hK237 _ _ ?_
 refine c_condF rfl (by decide) ?_
 refine wp_skip ?_
 refine hK69 _ _ ?_
 refine wp_region_lit ?_
 refine l_q rfl rfl (q_moveI rfl) ?_
 refine l_q rfl rfl (q_addx rfl rfl (by first | decide | omega) (by first | decide | omega)) ?_
 refine l_q rfl rfl (q_assignI rfl) ?_
 refine l_nil ?_
 have hS243 := hS241.fr6; clear hS241
 have hS244 := hS243.fr2; clear hS243
 have hS245 := hS244.fr5; clear hS244
 have hS246 := hS245.fr5; clear hS245
 have hS247 := hS246.fr4; clear hS246
 have hS248 : St _ _ [_, _, _, .fz g225, _] _ := hS247.only 5; clear hS247
 refine hK64 _ _ (came (⟨(i + 1), wa225, wc225, rs225, da225, dc225, l, s, g225⟩) (by repeat' (first | exact Agree.refl _ _ | refine Agree.up ?_ rfl | refine Agree.hav2 ?_ rfl | refine Agree.ups2 ?_ rfl)) (by repeat' (first | exact trivial | refine ⟨by first | rfl | exact int_succ _ | assumption, ?_⟩)) ?_)
 exact ⟨⟨hS248, (by show i + 1 ≤ vs.length; omega), hg0.trans (by first | exact hle225 | skip), hrs225, (by show rs225.length ≤ 3 + (i + 1); omega), hl, hsl, hll⟩, by (show vs.length - (i + 1) < vs.length - i); omega⟩
 have hc68b := hc68
 try simp only [zbb] at hc68
 refine wp_exit ?_
 refine hK56 _ _ ?_
 refine wp_seq_k (fun K249 hK249 => ?_)
 refine wp_region_lit ?_
 refine l_e rfl (fun K hK => ?_)
 refine e_call (by kernel_rfl) (alive13_ok _) rfl (after_R hS64 (fun v250 w250 hv250 hS250 => ?_))
 clear hS64
 obtain rfl := hv250
 refine hK _ _ ?_; clear hK K
 refine l_q rfl rfl (q_assignB rfl) ?_
 refine l_nil ?_
 refine hK249 _ _ ?_
 refine wp_ret ?_
 refine c_ret1 rfl rfl ?_
 first | exact ⟨_, rfl, rfl, hS250.drop⟩ | exact ⟨_, rfl, congrArg Value.bool (decide_eq_true (by omega)), hS250.drop⟩
 have hg67b := hg67
 try simp only [zbb] at hg67
 refine l_off rfl rfl rfl hg67b ?_
 refine l_off rfl rfl rfl hg67b ?_
 refine l_q rfl rfl (q_pickF rfl hg67b rfl) ?_
 refine l_nil ?_
 refine hK66 _ _ ?_
 refine c_condF rfl rfl ?_
 refine wp_exit ?_
 refine hK56 _ _ ?_
 refine wp_seq_k (fun K252 hK252 => ?_)
 refine wp_region_lit ?_
 refine l_e rfl (fun K hK => ?_)
 refine e_call (by kernel_rfl) (alive13_ok _) rfl (after_R hS64 (fun v253 w253 hv253 hS253 => ?_))
 clear hS64
 obtain rfl := hv253
 refine hK _ _ ?_; clear hK K
 refine l_q rfl rfl (q_assignB rfl) ?_
 refine l_nil ?_
 refine hK252 _ _ ?_
 refine wp_ret ?_
 refine c_ret1 rfl rfl ?_
 first | exact ⟨_, rfl, rfl, hS253.drop⟩ | exact ⟨_, rfl, congrArg Value.bool (decide_eq_true (by omega)), hS253.drop⟩
 refine l_e rfl (fun K hK => ?_)
 refine e_call (by kernel_rfl) (ask_any k7 kw7 nd 0 (0 + 1) mb7 oa17 [] oc17 [(nd, b17, zeroTx)] hT17 g17 hO17 (by first | omega | (simp only [zll] <;> omega)) nd ns ns.length (by first | omega | (simp only [zll] <;> omega)) (by first | omega | (simp only [zll] <;> omega)) na nc _ _ (St.rogB (Γ1 := [_, _]) hS20) hN (St.begin (Γ := [_, _]) hS20)) rfl (after_M (Γ1 := [_, _]) hS20 (fun v254 G254 w254 hv254 hS254 => ?_))
 clear hS20
 obtain ⟨a254, oa254, oc254, O254, T254, g254, rfl, rfl, hle254, hO254, hT254, hE254⟩ := hv254
 have hS255 : St _ _ [co k7 kw7 nd 0 (0 + 1) mb7 oa254 O254 oc254 T254, .fz g254, _, _, _] _ := hS254; clear hS254
 have hR254_2 := RsOk.mono hR17_2 hle254
 refine hK _ _ ?_; clear hK K
 obtain ⟨ea254, eT254, eO254⟩ := val3 hE254 (ask_not rfl rfl (by cases h : (ofL ns).2 with | true => exact absurd h hof | false => rfl))
 subst ea254
 obtain ⟨b254, eN254⟩ := abs_one eT254
 subst eN254
 have eM254 := los_nil eO254
 subst eM254
 refine l_q rfl rfl (q_neq rfl rfl) ?_
 refine l_nil ?_
 refine hK22 _ _ ?_
 refine c_condT rfl (by decide) ?_
 refine wp_seq_k (fun K257 hK257 => ?_)
 refine wp_region_lit ?_
 refine l_e rfl (fun K hK => ?_)
 refine e_call (by kernel_rfl) (alive13_ok _) rfl (after_R hS255 (fun v258 w258 hv258 hS258 => ?_))
 clear hS255
 obtain rfl := hv258
 refine hK _ _ ?_; clear hK K
 refine l_q rfl rfl (q_assignB rfl) ?_
 refine l_nil ?_
 refine hK257 _ _ ?_
 refine wp_ret ?_
 refine c_ret1 rfl rfl ?_
 first | exact ⟨_, rfl, rfl, hS258.drop⟩ | exact ⟨_, rfl, congrArg Value.bool (decide_eq_true (by omega)), hS258.drop⟩
 refine l_e rfl (fun K hK => ?_)
 refine e_call (by kernel_rfl) (open_arg nd hnd _ _) rfl (after_R hS6 (fun v259 w259 hv259 hS259 => ?_))
 clear hS6
 obtain rfl := hv259
 refine hK _ _ ?_; clear hK K
 refine l_q rfl rfl (q_move rfl) ?_
 refine l_q rfl rfl (q_extract rfl rfl) ?_
 refine l_q rfl rfl (q_extract rfl rfl) ?_
 refine l_q rfl rfl (q_assignP rfl) ?_
 refine l_q rfl rfl (q_assignI rfl) ?_
 refine l_nil ?_
 refine hK3 _ _ ?_
 refine wp_seq_k (fun K260 hK260 => ?_)
 refine wp_seq_k (fun K261 hK261 => ?_)
 refine wp_region_lit ?_
 refine l_q rfl rfl (q_moveI rfl) ?_
 refine l_q rfl rfl (q_neq rfl rfl) ?_
 refine l_q rfl rfl (q_moveB rfl) ?_
 refine l_off rfl rfl rfl (by decide) ?_
 refine l_off rfl rfl rfl (by decide) ?_
 refine l_q rfl rfl (q_pickT rfl (by decide) rfl) ?_
 refine l_q rfl rfl (q_moveB rfl) ?_
 refine l_off rfl rfl rfl rfl ?_
 refine l_off rfl rfl rfl rfl ?_
 refine l_off rfl rfl rfl rfl ?_
 refine l_off rfl rfl rfl rfl ?_
 refine l_q rfl rfl (q_pickT rfl rfl rfl) ?_
 refine l_nil ?_
 refine hK261 _ _ ?_
 refine c_condT rfl rfl ?_
 refine wp_seq_k (fun K263 hK263 => ?_)
 refine wp_region_lit ?_
 refine l_e rfl (fun K hK => ?_)
 refine e_call (by kernel_rfl) (alive13_ok _) rfl (after_R hS259 (fun v264 w264 hv264 hS264 => ?_))
 clear hS259
 obtain rfl := hv264
 refine hK _ _ ?_; clear hK K
 refine l_q rfl rfl (q_moveB rfl) ?_
 refine l_on rfl rfl rfl ?_
 refine l_q rfl rfl (q_moveI rfl) ?_
 refine l_on rfl rfl rfl ?_
 refine l_q rfl rfl (q_eql rfl rfl) ?_
 refine l_on rfl rfl rfl ?_
 refine l_q rfl rfl (q_moveB rfl) ?_
 refine l_on rfl rfl (by decide) ?_
 refine l_q rfl rfl (q_moveI rfl) ?_
 refine l_on rfl rfl (by decide) ?_
 refine l_q rfl rfl (q_eql rfl rfl) ?_
 refine l_on rfl rfl rfl ?_
 refine l_q rfl rfl (q_pickF rfl (by decide) rfl) ?_
 refine l_q rfl rfl (q_pickT rfl rfl rfl) ?_
 refine l_q rfl rfl (q_assignB rfl) ?_
 refine l_nil ?_
 refine hK263 _ _ ?_
 refine wp_ret ?_
 refine c_ret1 rfl rfl ?_
 first | exact ⟨_, rfl, rfl, hS264.drop⟩ | exact ⟨_, rfl, congrArg Value.bool (decide_eq_true (by omega)), hS264.drop⟩
theorem stops_ok (nd : Int) (ns : List Int) (na : Option Addr) (nc : Nat) (vs : List Vo) (va : Option Addr) (vc : Nat) (keep : Int) (hvs : ∀ v ∈ vs, -9223372036854775808 ≤ v.nd ∧ -9223372036854775808 ≤ v.k) (st : Bool) (w : World) (hN : SlG (hw w) na (iv ns)) (hV : SlG (hw w) va (List.flatMap vo vs)) : Calls Try.prog 3 #[.int .i64 nd, .agg #[.slice na ns.length nc, .slice va vs.length vc, .int .i64 keep], .bool st] w (PostR w fun v => v = .bool true) := by
  cases st with
  | true => exact stops_1 nd ns na nc vs va vc keep hvs w hN hV
  | false => exact stops_0 nd ns na nc vs va vc keep hvs w hN hV

end Go.Proofs.Yteojpdijmnpmgaa
namespace Go.Proofs.Yteojpdijmnpmgaa
open Go.ChangeShapes Go.WideShapes Go.ChangeAt Go.RowKit
set_option maxRecDepth 100000 in
theorem coordinatorStops_lifted (os : Os) (started : os.Started) (H : Type) (enc : TypeId × Value → H) :
    ReturnsInHanded {} Try.checked os 3 .any (Rows.coordinatorStopsSpec.pre6 enc Try.prog Try.f3 Rows.coordinatorStopsRow.domain false) (Rows.coordinatorStopsSpec.post enc Try.prog Try.f3 false true false false) := by
  refine returnsInHanded_of_change (C := Try.checked) own7 started (by kernel_rfl) Try.func3
    (ChangeSpec.witness6 (enc := enc) (C := Try.checked) false ⟨#[], #[.int .i64 0, .agg #[.slice none 0 0, .slice none 0 0, .int .i64 0], .bool false], []⟩ 8 (by kernel_rfl) (by kernel_rfl) (by kernel_rfl) (by kernel_rfl)) ?_
  intro W base args ds gs before hval0 hW hcnd _
  have hval : ∀ (j : Nat) t v, Try.f3.params[j]? = some t → args[j]? = some v → Value.okWide Try.prog W .any base t v := hval0
  have hW' := hW
  obtain ⟨p, q, hA0, hV0, rfl, hfz, hnd⟩ := hW
  have hA : DataW.TrodAll enc Try.prog W 0 (fun _ => true) true Try.f3.params.toList args.toList ds p := hA0
  have hV : DataW.TrodVars enc Try.prog W (fun _ => true) [] gs q := hV0
  rw [Try.params3] at hA hval
  obtain ⟨v0, v1, v2, d0, d1, d2, q0, q1, q2, rfl, rfl, rfl, h0, h1, h2⟩ := trodAll_three hA
  obtain ⟨rfl, rfl⟩ := trodVars_none hV
  obtain ⟨nd, rfl, rfl, rfl, wnd⟩ := open_int Try.underlying3 (hval 0 3 v0 rfl rfl) h0
  have bnd := bnd_i64 wnd
  obtain ⟨ns, na, nc, vs, va, vc, keep, rfl, hN, hV, hvs, hkp⟩ := opn_case (hval 1 25 v1 rfl rfl) h1
  obtain ⟨st, rfl, rfl, rfl⟩ := open_bool Try.underlying4 (hval 2 4 v2 rfl rfl) h2
  clear hA0 hval0
  simp only [List.append_nil] at hW'
  have hlt1 : ∀ x ∈ q1, x.block < W.heap.size := fun x hx => by simpa using hW'.lt x (by simp [hx])
  have e1 : Rows.coordinatorStopsSpec.fn H ([.lit (.int .i64 nd), d1, .lit (.bool st)] ++ []) = { results := [.lit (.bool true)], args := [.lit (.int .i64 nd), d1, .lit (.bool st)] } := by simp [Rows.coordinatorStopsSpec]
  refine (stops_ok nd ns na nc vs va vc keep hvs st W hN hV).mono fun e W' hw0 => ?_
  obtain ⟨rr, he, hrr, hSt⟩ := hw0
  subst he hrr
  have hw : Below W.heap.size W W' := hSt.below
  refine ⟨_, rfl, _, _, _, [], [] ++ (q1 ++ []), [], hW', ?_, ?_, ?_, hw.frame _, fun h => by cases h⟩
  · rw [e1]; exact trodAll_mk1 (shut_bool Try.underlying4 true)
  · rw [e1]; exact trodAll_mk3 (shut_int Try.underlying3 wnd) (Below.trod laidOut7 (by kernel_rfl) (of_decide_eq_true (by kernel_rfl)) h1 hw hlt1) (shut_bool Try.underlying4 st)
  · rw [e1]; rfl

theorem coordinatorStops_holds : Rows.CoordinatorStopsSaid :=
  OpenClaim.holds_of_wide 3 Try.f3 rfl rfl rfl rfl rfl rfl rfl ⟨rfl, rfl, rfl, rfl, rfl⟩ rfl rfl rfl rfl rfl (by kernel_rfl) Try.func3 (by kernel_rfl)
    (of_decide_eq_true (by kernel_rfl)) (by unfold Func.isWrapper; rw [if_neg (of_decide_eq_false (by kernel_rfl))]; exact ⟨rfl, rfl⟩)
    (fun os started H enc _ => coordinatorStops_lifted os started H enc)
#print axioms coordinatorStops_holds
end Go.Proofs.Yteojpdijmnpmgaa
