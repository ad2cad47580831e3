/- CoordinatorDecides: all said yes, for every input. No conditions. -/
import Derived.Test.YteojpdijmnpmgaaZDe6
import Derived.Test.YteojpdijmnpmgaaRows
import Derived.ProofKit
set_option linter.unusedVariables false
set_option linter.unusedSimpArgs false
namespace Go.Proofs.Yteojpdijmnpmgaa
open Go.RowKit
attribute [local irreducible] Oper.wp Sem.run Code.wp wpList wpAnyO callFunc execOp Calls
attribute [local irreducible] toU short rencs renc rowE encRow rightB zig unzig decRw rightL risB lastN bitsOf nodesTo readL recB ofL sends getT delT setT waL waE waN waR apL apE decF vot2 votesF doneF hearF replayF replayR rdB rdE scan nums hearG askF numB staT toL kindV pickN upd dT DInv toR
set_option maxHeartbeats 8000000 in
set_option maxRecDepth 100000 in
theorem decides_ok (nd : Int) (ns : List Int) (na : Option Addr) (nc : Nat) (vs : List Vo) (va : Option Addr) (vc : Nat) (keep : Int) (hkp : -9223372036854775808 ≤ keep) (hvs : ∀ v ∈ vs, -9223372036854775808 ≤ v.nd ∧ -9223372036854775808 ≤ v.k) (w : World) (hN : SlG (hw w) na (iv ns)) (hV : SlG (hw w) va (List.flatMap vo vs))  : Calls Try.prog 4 #[.int .i64 nd, .agg #[.slice na ns.length nc, .slice va vs.length vc, .int .i64 keep]] w (PostR w fun v => v = .bool true) := by
 have hS := St.start w
 refine c_enter Try.func4 rfl rfl rfl ?_
 refine wp_seq_k (fun K1 hK1 => ?_)
 refine wp_region_lit ?_
 refine l_e rfl (fun K hK => ?_)
 refine e_boxA hS rfl (fun b2 w2 (hS2 : St _ _ [.blk b2 (.cells #[.slice na ns.length nc, .slice va vs.length vc, .int .i64 keep] 25)] _) => ?_)
 clear hS
 refine hK _ _ ?_; clear hK K
 refine l_q rfl rfl (q_assignB rfl) ?_
 refine l_nil ?_
 refine hK1 _ _ ?_
 refine wp_seq_k (fun K3 hK3 => ?_)
 refine wp_region_lit ?_
 refine l_e rfl (fun K hK => ?_)
 refine e_call (by kernel_rfl) (dNew_ok _) rfl (after_N hS2 (fun v4 G4 w4 hv4 hS4 => ?_))
 clear hS2
 obtain ⟨k4, rfl, rfl⟩ := hv4
 have hS5 : St _ _ [dk k4 none 0 [] 0 0, _] _ := hS4; clear hS4
 refine hK _ _ ?_; clear hK K
 have hS6 := hS5.fz0; clear hS5
 refine l_q rfl rfl (q_assignP rfl) ?_
 refine l_nil ?_
 refine hK3 _ _ ?_
 refine wp_seq_k (fun K7 hK7 => ?_)
 refine wp_region_lit ?_
 refine l_q rfl rfl (q_moveP rfl) ?_
 refine l_q rfl rfl (q_moveI rfl) ?_
 by_cases hnd : 0 ≤ nd ∧ nd < 16
 refine l_e rfl (fun K hK => ?_)
 have hS9 := hS6.fr1; clear hS6
 refine e_call (by kernel_rfl) (open_ok nd hnd _ _ _ [] 0 0 Bytes.nil (by first | omega | (simp only [zll] <;> omega)) (by first | omega | (simp only [zll] <;> omega)) _ (by first | omega | (simp only [zll] <;> omega)) (by rw [scan_nil]; exact Nat.zero_le _) (by rw [scan_nil]; show (replayR [] (0, [])).1 ≤ 65536; rw [replayR_nil]; exact Nat.zero_le _) _ (St.begin (Γ := [_, _]) hS9)) rfl (after_M (Γ1 := [_, _]) hS9 (fun v8 G8 w8 hv8 hS8 => ?_))
 clear hS9
 obtain ⟨k8, kw8, mb8, wa8, wc8, inc8, T8, rs8, da8, dc8, g8, rfl, rfl, hle8, hT8, hst8, hrs8, hrl8⟩ := hv8
 have hS10 : St _ _ [co k8 kw8 nd inc8 0 mb8 none [] 0 T8, wk kw8 k4 wa8 wc8 rs8, dk k4 da8 dc8 (recL ([].take (scan [] 0).2) [0, (inc8 : Int)]) 0 ((recL ([].take (scan [] 0).2) [0, (inc8 : Int)]).length), .fz g8, _] _ := hS8; clear hS8
 refine hK _ _ ?_; clear hK K
 have hsn0 : scan [] 0 = ([], 0) := scan_nil 0
 rw [hsn0, replayR_nil] at hst8
 have hi0 : inc8 = 0 := congrArg Prod.fst hst8
 have hT0 : T8 = [] := abs_nil (congrArg Prod.snd hst8)
 rw [hsn0] at hrl8
 subst hi0 hT0
 obtain ⟨l0, hl0e⟩ : ∃ l0, l0 = recL [] [0, 0] := ⟨_, rfl⟩
 have hS11 : St _ _ [co k8 kw8 nd 0 0 mb8 none [] 0 [], _, dk k4 da8 dc8 l0 0 l0.length, .fz g8, _] _ := hS10.cast (by rw [hl0e, hsn0]; rfl); clear hS10
 obtain ⟨hl0, hd0, hlen0⟩ := disk0 hl0e
 have hrl8' : rs8.length ≤ 1 := hrl8
 refine l_q rfl rfl (q_move rfl) ?_
 refine l_q rfl rfl (q_extract rfl rfl) ?_
 refine l_q rfl rfl (q_extract rfl rfl) ?_
 refine l_q rfl rfl (q_assignP rfl) ?_
 refine l_q rfl rfl (q_assignI rfl) ?_
 refine l_nil ?_
 refine hK7 _ _ ?_
 refine wp_seq_k (fun K12 hK12 => ?_)
 refine wp_seq_k (fun K13 hK13 => ?_)
 refine wp_region_lit ?_
 refine l_q rfl rfl (q_moveI rfl) ?_
 refine l_q rfl rfl (q_neq rfl rfl) ?_
 refine l_q rfl rfl (q_moveB rfl) ?_
 refine l_on rfl rfl (by decide) ?_
 refine l_q rfl rfl (q_moveP rfl) ?_
 refine l_on rfl rfl (by decide) ?_
 refine l_q rfl rfl (q_peq rfl (by kernel_rfl)) ?_
 refine l_q rfl rfl (q_pickF rfl (by decide) rfl) ?_
 refine l_nil ?_
 refine hK13 _ _ ?_
 refine c_condF rfl rfl ?_
 refine wp_skip ?_
 refine hK12 _ _ ?_
 refine wp_seq_k (fun K15 hK15 => ?_)
 refine wp_region_lit ?_
 refine l_q rfl rfl (q_moveP rfl) ?_
 refine l_e rfl (fun K hK => ?_)
 have hS17 := hS11.fr3; clear hS11
 have hS18 := hS17.fr1; clear hS17
 refine e_call (by kernel_rfl) (begin_ok k8 kw8 nd 0 0 mb8 none [] 0 [] TOk.nil g8 LOk.nil (by first | omega | (simp only [zll] <;> omega)) nd (by first | omega | (simp only [zll] <;> omega)) (by first | omega | (simp only [zll] <;> omega)) hnd (numB0 _).symm _ (St.begin (Γ := [_, _]) hS18)) rfl (after_M (Γ1 := [_, _]) hS18 (fun v16 G16 w16 hv16 hS16 => ?_))
 clear hS18
 obtain ⟨oa16, oc16, O16, T16, g16, rfl, rfl, hle16, hO16, hT16, hab16, hOe16⟩ := hv16
 have hS19 : St _ _ [co k8 kw8 nd 0 (0 + 1) mb8 oa16 O16 oc16 T16, .fz g16, _, _, _] _ := hS16; clear hS16
 have hR16_2 := RsOk.mono hrs8 hle16
 refine hK _ _ ?_; clear hK K
 obtain ⟨b16, eN16⟩ := abs_one (hab16.trans (set_nil _ _))
 subst eN16
 have eM16 := los_nil hOe16
 subst eM16
 refine l_q rfl rfl (q_move rfl) ?_
 refine l_q rfl rfl (q_extract rfl rfl) ?_
 refine l_q rfl rfl (q_extract rfl rfl) ?_
 refine l_q rfl rfl (q_assignI rfl) ?_
 refine l_q rfl rfl (q_assignI rfl) ?_
 refine l_nil ?_
 refine hK15 _ _ ?_
 refine wp_seq_k (fun K20 hK20 => ?_)
 refine wp_seq_k (fun K21 hK21 => ?_)
 refine wp_region_lit ?_
 refine l_q rfl rfl (q_moveI rfl) ?_
 refine l_q rfl rfl (q_neq rfl rfl) ?_
 refine l_q rfl rfl (q_moveB rfl) ?_
 refine l_on rfl rfl (by decide) ?_
 refine l_q rfl rfl (q_fieldAddr (ft := 22) (o := 0) rfl (by kernel_rfl)) ?_
 refine l_on rfl rfl (by decide) ?_
 refine l_q rfl rfl (q_load1 rfl (by kernel_rfl) (hS19.cell (i := 4) rfl rfl)) ?_
 refine l_on rfl rfl (by decide) ?_
 refine l_q rfl rfl (q_lenSl (e := 3) rfl (by kernel_rfl)) ?_
 refine l_on rfl rfl (by decide) ?_
 refine l_q rfl rfl (q_gtr rfl rfl) ?_
 refine l_q rfl rfl (q_pickF rfl (by decide) rfl) ?_
 refine l_nil ?_
 refine hK21 _ _ ?_
 refine c_cond rfl (fun hc22 => ?_) (fun hc22 => ?_)
 have hc22b := hc22
 try simp only [zbb] at hc22
 refine wp_seq_k (fun K23 hK23 => ?_)
 refine wp_region_lit ?_
 refine l_q rfl rfl (q_moveI rfl) ?_
 refine l_q rfl rfl (q_eql rfl rfl) ?_
 refine l_q rfl rfl (q_assignB rfl) ?_
 refine l_nil ?_
 refine hK23 _ _ ?_
 refine wp_ret ?_
 refine c_ret1 rfl rfl ?_
 first | exact ⟨_, rfl, rfl, hS19.drop⟩ | exact ⟨_, rfl, congrArg Value.bool (decide_eq_true (by omega)), hS19.drop⟩
 have hc22b := hc22
 try simp only [zbb] at hc22
 refine wp_skip ?_
 refine hK20 _ _ ?_
 refine wp_seq_k (fun K24 hK24 => ?_)
 refine wp_seq_k (fun K25 hK25 => ?_)
 refine wp_region_lit ?_
 refine l_q rfl rfl (q_moveP rfl) ?_
 refine l_q rfl rfl (q_moveI rfl) ?_
 refine l_q rfl rfl (q_fieldAddr (ft := 22) (o := 0) rfl (by kernel_rfl)) ?_
 refine l_q rfl rfl (q_load1 rfl (by kernel_rfl) (hS19.cell (i := 4) rfl rfl)) ?_
 by_cases hof : (ofL ns).2 = true
 refine l_e rfl (fun K hK => ?_)
 refine e_call (by kernel_rfl) (ask_any k8 kw8 nd 0 (0 + 1) mb8 oa16 [] oc16 [(nd, b16, zeroTx)] hT16 g16 hO16 (by first | omega | (simp only [zll] <;> omega)) nd ns ns.length (by first | omega | (simp only [zll] <;> omega)) (by first | omega | (simp only [zll] <;> omega)) na nc _ _ (St.rogB (Γ1 := [_, _]) hS19) hN (St.begin (Γ := [_, _]) hS19)) rfl (after_M (Γ1 := [_, _]) hS19 (fun v26 G26 w26 hv26 hS26 => ?_))
 clear hS19
 obtain ⟨a26, oa26, oc26, O26, T26, g26, rfl, rfl, hle26, hO26, hT26, hE26⟩ := hv26
 have hS27 : St _ _ [co k8 kw8 nd 0 (0 + 1) mb8 oa26 O26 oc26 T26, .fz g26, _, _, _] _ := hS26; clear hS26
 have hR26_2 := RsOk.mono hR16_2 hle26
 refine hK _ _ ?_; clear hK K
 obtain ⟨u, hu⟩ : ∃ u, ofL ns = (u, true) := ⟨_, Prod.ext rfl hof⟩
 obtain ⟨hun, hu0, hu1, hnn, hnl, hnp, hnx⟩ := ofL_facts hu
 obtain ⟨ea26, eT26, eO26⟩ := val3 hE26 (ask_one (u := u) rfl rfl hu)
 subst ea26
 have hI26 : DInv nd ns u (absT T26) [] [] [] [] false := by rw [eT26]; exact DInv.zero rfl rfl rfl rfl hnp
 have hdT26 : DiskIs l0 (0 + 1, dT nd (absT T26)) := hd0.same (by rw [eT26, dT_one rfl])
 have hol26 : O26.length ≤ 16 := by rw [los_len eO26, List.length_append, sends_length]; exact hnl0 hun hnl
 refine l_q rfl rfl (q_neq rfl rfl) ?_
 refine l_nil ?_
 refine hK25 _ _ ?_
 refine c_condF rfl (by decide) ?_
 refine wp_skip ?_
 refine hK24 _ _ ?_
 refine wp_seq_k (fun K29 hK29 => ?_)
 refine wp_region_lit ?_
 refine l_q rfl rfl (q_moveP rfl) ?_
 refine l_e rfl (fun K hK => ?_)
 refine e_call (by kernel_rfl) (out_ok k8 kw8 nd 0 (0 + 1) mb8 oa26 O26 oc26 T26 hT26 g26 hO26 (by first | omega | (simp only [zll] <;> omega)) _ (St.begin (Γ := [_, _]) hS27)) rfl (after_M (Γ1 := [_, _]) hS27 (fun v30 G30 w30 hv30 hS30 => ?_))
 clear hS27
 obtain ⟨rfl, rfl⟩ := hv30
 have hS31 : St _ _ [.ow 42 5 oa26 O26.length oc26 (List.flatMap lo O26), co k8 kw8 nd 0 (0 + 1) mb8 none [] 0 T26, .fz g26, _, _, _] _ := hS30; clear hS30
 refine hK _ _ ?_; clear hK K
 refine l_nil ?_
 refine hK29 _ _ ?_
 refine wp_seq_k (fun K32 hK32 => ?_)
 refine wp_region_lit ?_
 refine l_q rfl rfl (q_assignS rfl) ?_
 refine l_q rfl rfl (q_assignS rfl) ?_
 refine l_q rfl rfl (q_assignS rfl) ?_
 refine l_q rfl rfl (q_assignS rfl) ?_
 refine l_nil ?_
 refine hK32 _ _ ?_
 refine wp_seq_k (fun K33 hK33 => ?_)
 refine wp_region_lit ?_
 refine l_q rfl rfl (q_assignB rfl) ?_
 refine l_nil ?_
 refine hK33 _ _ ?_
 refine wp_seq_k (fun K34 hK34 => ?_)
 refine wp_seq_k (fun K35 hK35 => ?_)
 refine wp_region_lit ?_
 refine l_q rfl rfl (q_assignI rfl) ?_
 refine l_nil ?_
 refine hK35 _ _ ?_
 refine wp_block ?_
 have hS36 := hS31.ow_nil 3 1; clear hS31
 have hS37 := hS36.ow_nil 3 1; clear hS36
 have hS38 := hS37.ow_nil 3 1; clear hS37
 have hS39 := hS38.ow_nil 3 1; clear hS38
 have hS40 := hS39.fr3; clear hS39
 have hS41 := hS40.fr3; clear hS40
 have hS42 := hS41.fr3; clear hS41
 have hS43 := hS42.fr3; clear hS42
 have hS44 := hS43.fr9; clear hS43
 have hS45 := hS44.fr7; clear hS44
 have hS46 := hS45.fr9; clear hS45
 have hS47 := hS46.fr9; clear hS46
 have hS48 := hS47.fr9; clear hS47
 have hS49 : St _ _ [_, _, _, .fz g26, _, .ow 3 1 none 0 0 (iv []), _, _, _] _ := hS48.only 9; clear hS48
 refine c_loop (τ := Nat × Nat × Nat × Nat × Nat × Nat × (List (Int × Nat × Tx)) × Nat × (Option Addr) × Nat × (List Rc) × (Option Addr) × Nat × (List Nat) × Gh × Bool × (List Int) × (Option Addr) × Nat × (List Int) × (Option Addr) × Nat × (List Int) × (Option Addr) × Nat × (List Int) × (Option Addr) × Nat) [(4, 7), (10, 22), (71, 261)] (fun x => (fun (i : Nat) (k : Nat) (kw : Nat) (mb : Nat) (inc : Nat) (cnt : Nat) (T : List (Int × Nat × Tx)) (kd : Nat) (wa : Option Addr) (wc : Nat) (rs : List Rc) (da : Option Addr) (dc : Nat) (l : List Nat) (g : Gh) (N : Bool) (Y : List Int) (Ya : Option Addr) (Yc : Nat) (R : List Int) (Ra : Option Addr) (Rc : Nat) (CM : List Int) (CMa : Option Addr) (CMc : Nat) (AB : List Int) (ABa : Option Addr) (ABc : Nat) => [(15, .int .i64 (i : Int)), (6, .pointer (some ⟨k, 0, none⟩)), (5, .pointer (some ⟨kd, 0, none⟩)), (14, .bool N), (10, .slice Ya Y.length Yc), (11, .slice Ra R.length Rc), (12, .slice CMa CM.length CMc), (13, .slice ABa AB.length ABc)]) x.1 x.2.1 x.2.2.1 x.2.2.2.1 x.2.2.2.2.1 x.2.2.2.2.2.1 x.2.2.2.2.2.2.1 x.2.2.2.2.2.2.2.1 x.2.2.2.2.2.2.2.2.1 x.2.2.2.2.2.2.2.2.2.1 x.2.2.2.2.2.2.2.2.2.2.1 x.2.2.2.2.2.2.2.2.2.2.2.1 x.2.2.2.2.2.2.2.2.2.2.2.2.1 x.2.2.2.2.2.2.2.2.2.2.2.2.2.1 x.2.2.2.2.2.2.2.2.2.2.2.2.2.2.1 x.2.2.2.2.2.2.2.2.2.2.2.2.2.2.2.1 x.2.2.2.2.2.2.2.2.2.2.2.2.2.2.2.2.1 x.2.2.2.2.2.2.2.2.2.2.2.2.2.2.2.2.2.1 x.2.2.2.2.2.2.2.2.2.2.2.2.2.2.2.2.2.2.1 x.2.2.2.2.2.2.2.2.2.2.2.2.2.2.2.2.2.2.2.1 x.2.2.2.2.2.2.2.2.2.2.2.2.2.2.2.2.2.2.2.2.1 x.2.2.2.2.2.2.2.2.2.2.2.2.2.2.2.2.2.2.2.2.2.1 x.2.2.2.2.2.2.2.2.2.2.2.2.2.2.2.2.2.2.2.2.2.2.1 x.2.2.2.2.2.2.2.2.2.2.2.2.2.2.2.2.2.2.2.2.2.2.2.1 x.2.2.2.2.2.2.2.2.2.2.2.2.2.2.2.2.2.2.2.2.2.2.2.2.1 x.2.2.2.2.2.2.2.2.2.2.2.2.2.2.2.2.2.2.2.2.2.2.2.2.2.1 x.2.2.2.2.2.2.2.2.2.2.2.2.2.2.2.2.2.2.2.2.2.2.2.2.2.2.1 x.2.2.2.2.2.2.2.2.2.2.2.2.2.2.2.2.2.2.2.2.2.2.2.2.2.2.2) (fun x w' => (fun (i : Nat) (k : Nat) (kw : Nat) (mb : Nat) (inc : Nat) (cnt : Nat) (T : List (Int × Nat × Tx)) (kd : Nat) (wa : Option Addr) (wc : Nat) (rs : List Rc) (da : Option Addr) (dc : Nat) (l : List Nat) (g : Gh) (N : Bool) (Y : List Int) (Ya : Option Addr) (Yc : Nat) (R : List Int) (Ra : Option Addr) (Rc : Nat) (CM : List Int) (CMa : Option Addr) (CMc : Nat) (AB : List Int) (ABa : Option Addr) (ABc : Nat) => St w (fun _ => False) [co k kw nd inc cnt mb none [] 0 T, wk kw kd wa wc rs, dk kd da dc l 0 l.length, .fz g, .blk b2 (.cells #[.slice na ns.length nc, .slice va vs.length vc, .int .i64 keep] 25), .ow 3 1 Ya Y.length Yc (iv Y), .ow 3 1 Ra R.length Rc (iv R), .ow 3 1 CMa CM.length CMc (iv CM), .ow 3 1 ABa AB.length ABc (iv AB)] w' ∧ i ≤ vs.length ∧ i ≤ 60 ∧ inc ≤ i ∧ cnt ≤ 1 ∧ TOk T ∧ DiskIs l (inc + 1, dT nd (absT T)) ∧ l.length ≤ 3382 * (2 * i + 1) ∧ RsOk g rs ∧ rs.length ≤ 450001 + i ∧ DInv nd ns u (absT T) Y R CM AB N ∧ CM.length + AB.length ≤ 100 * i ∧ Y.length + R.length ≤ i) x.1 x.2.1 x.2.2.1 x.2.2.2.1 x.2.2.2.2.1 x.2.2.2.2.2.1 x.2.2.2.2.2.2.1 x.2.2.2.2.2.2.2.1 x.2.2.2.2.2.2.2.2.1 x.2.2.2.2.2.2.2.2.2.1 x.2.2.2.2.2.2.2.2.2.2.1 x.2.2.2.2.2.2.2.2.2.2.2.1 x.2.2.2.2.2.2.2.2.2.2.2.2.1 x.2.2.2.2.2.2.2.2.2.2.2.2.2.1 x.2.2.2.2.2.2.2.2.2.2.2.2.2.2.1 x.2.2.2.2.2.2.2.2.2.2.2.2.2.2.2.1 x.2.2.2.2.2.2.2.2.2.2.2.2.2.2.2.2.1 x.2.2.2.2.2.2.2.2.2.2.2.2.2.2.2.2.2.1 x.2.2.2.2.2.2.2.2.2.2.2.2.2.2.2.2.2.2.1 x.2.2.2.2.2.2.2.2.2.2.2.2.2.2.2.2.2.2.2.1 x.2.2.2.2.2.2.2.2.2.2.2.2.2.2.2.2.2.2.2.2.1 x.2.2.2.2.2.2.2.2.2.2.2.2.2.2.2.2.2.2.2.2.2.1 x.2.2.2.2.2.2.2.2.2.2.2.2.2.2.2.2.2.2.2.2.2.2.1 x.2.2.2.2.2.2.2.2.2.2.2.2.2.2.2.2.2.2.2.2.2.2.2.1 x.2.2.2.2.2.2.2.2.2.2.2.2.2.2.2.2.2.2.2.2.2.2.2.2.1 x.2.2.2.2.2.2.2.2.2.2.2.2.2.2.2.2.2.2.2.2.2.2.2.2.2.1 x.2.2.2.2.2.2.2.2.2.2.2.2.2.2.2.2.2.2.2.2.2.2.2.2.2.2.1 x.2.2.2.2.2.2.2.2.2.2.2.2.2.2.2.2.2.2.2.2.2.2.2.2.2.2.2) (fun x => (fun (i : Nat) (k : Nat) (kw : Nat) (mb : Nat) (inc : Nat) (cnt : Nat) (T : List (Int × Nat × Tx)) (kd : Nat) (wa : Option Addr) (wc : Nat) (rs : List Rc) (da : Option Addr) (dc : Nat) (l : List Nat) (g : Gh) (N : Bool) (Y : List Int) (Ya : Option Addr) (Yc : Nat) (R : List Int) (Ra : Option Addr) (Rc : Nat) (CM : List Int) (CMa : Option Addr) (CMc : Nat) (AB : List Int) (ABa : Option Addr) (ABc : Nat) => vs.length - i) x.1 x.2.1 x.2.2.1 x.2.2.2.1 x.2.2.2.2.1 x.2.2.2.2.2.1 x.2.2.2.2.2.2.1 x.2.2.2.2.2.2.2.1 x.2.2.2.2.2.2.2.2.1 x.2.2.2.2.2.2.2.2.2.1 x.2.2.2.2.2.2.2.2.2.2.1 x.2.2.2.2.2.2.2.2.2.2.2.1 x.2.2.2.2.2.2.2.2.2.2.2.2.1 x.2.2.2.2.2.2.2.2.2.2.2.2.2.1 x.2.2.2.2.2.2.2.2.2.2.2.2.2.2.1 x.2.2.2.2.2.2.2.2.2.2.2.2.2.2.2.1 x.2.2.2.2.2.2.2.2.2.2.2.2.2.2.2.2.1 x.2.2.2.2.2.2.2.2.2.2.2.2.2.2.2.2.2.1 x.2.2.2.2.2.2.2.2.2.2.2.2.2.2.2.2.2.2.1 x.2.2.2.2.2.2.2.2.2.2.2.2.2.2.2.2.2.2.2.1 x.2.2.2.2.2.2.2.2.2.2.2.2.2.2.2.2.2.2.2.2.1 x.2.2.2.2.2.2.2.2.2.2.2.2.2.2.2.2.2.2.2.2.2.1 x.2.2.2.2.2.2.2.2.2.2.2.2.2.2.2.2.2.2.2.2.2.2.1 x.2.2.2.2.2.2.2.2.2.2.2.2.2.2.2.2.2.2.2.2.2.2.2.1 x.2.2.2.2.2.2.2.2.2.2.2.2.2.2.2.2.2.2.2.2.2.2.2.2.1 x.2.2.2.2.2.2.2.2.2.2.2.2.2.2.2.2.2.2.2.2.2.2.2.2.2.1 x.2.2.2.2.2.2.2.2.2.2.2.2.2.2.2.2.2.2.2.2.2.2.2.2.2.2.1 x.2.2.2.2.2.2.2.2.2.2.2.2.2.2.2.2.2.2.2.2.2.2.2.2.2.2.2) (⟨0, k8, kw8, mb8, 0, (0 + 1), T26, k4, wa8, wc8, rs8, da8, dc8, l0, g26, false, [], none, 0, [], none, 0, [], none, 0, [], none, 0⟩) ?_ (by repeat' (first | exact trivial | refine ⟨rfl, ?_⟩)) (fun x50 j50 w50 hJ50 K50 hK50 => ?_)
 exact ⟨hS49, Nat.zero_le _, (by show 0 ≤ 60; decide), Nat.le_refl _, (by show 0 + 1 ≤ 1; decide), hT26, hdT26, (by first | omega | (dsimp only; omega)), hR26_2, (by first | omega | (dsimp only; omega)), hI26, Nat.le_refl _, Nat.le_refl _⟩
 obtain ⟨i, k, kw, mb, inc, cnt, T, kd, wa, wc, rs, da, dc, l, g, N, Y, Ya, Yc, R, Ra, Rc, CM, CMa, CMc, AB, ABa, ABc⟩ := x50
 obtain ⟨hS50, hi, hi6, hic, hcn, hT, hd, hll, hR, hrn, hI, hCA, hYR⟩ := hJ50
 try dsimp only at hS50 hi hi6 hic hcn hT hd hll hR hrn hI hCA hYR ⊢
 have hl := hd.1
 refine wp_seq_k (fun K51 hK51 => ?_)
 refine wp_seq_k (fun K52 hK52 => ?_)
 refine wp_region_lit ?_
 refine l_q rfl rfl (q_moveI rfl) ?_
 refine l_q rfl rfl (q_fieldAddr (ft := 23) (o := 1) rfl (by kernel_rfl)) ?_
 refine l_q rfl rfl (q_load1 rfl (by kernel_rfl) (hS50.cell (i := 4) rfl rfl)) ?_
 refine l_q rfl rfl (q_lenSl (e := 45) rfl (by kernel_rfl)) ?_
 refine l_q rfl rfl (q_lss rfl rfl) ?_
 refine l_q rfl rfl (q_moveB rfl) ?_
 refine g_splitL (t := 76) rfl (fun hg53 => ?_) (fun hg53 => ?_)
 have hg53b := hg53
 try simp only [zbb] at hg53
 refine l_on rfl rfl hg53b ?_
 refine l_q rfl rfl (q_moveI rfl) ?_
 refine l_on rfl rfl hg53b ?_
 refine l_q rfl rfl (q_lss rfl rfl) ?_
 refine l_q rfl rfl (q_pickT rfl hg53b rfl) ?_
 refine l_nil ?_
 refine hK52 _ _ ?_
 refine c_cond rfl (fun hc54 => ?_) (fun hc54 => ?_)
 have hc54b := hc54
 try simp only [zbb] at hc54
 refine wp_skip ?_
 refine hK51 _ _ ?_
 refine wp_seq_k (fun K55 hK55 => ?_)
 refine wp_block ?_
 refine wp_seq_k (fun K56 hK56 => ?_)
 refine wp_region_lit ?_
 refine l_q rfl rfl (q_fieldAddr (ft := 23) (o := 1) rfl (by kernel_rfl)) ?_
 refine l_q rfl rfl (q_load1 rfl (by kernel_rfl) (hS50.cell (i := 4) rfl rfl)) ?_
 refine l_q rfl rfl (q_moveI rfl) ?_
 refine l_q rfl rfl (q_ixG (e := 45) (m := 3) (j := i) rfl rfl (by kernel_rfl) (by kernel_rfl) (by first | rfl | omega) (by omega) hV (by rw [rows_len (c := vo) (m := 3) (fun _ => rfl)]; first | omega | (simp only [zll] <;> omega))) ?_
 obtain ⟨x57, hx57⟩ : ∃ x, (vs)[i]? = some x := ⟨_, List.getElem?_eq_getElem (by first | omega | (simp only [zll] <;> omega) | (simp <;> omega))⟩
 have hvo_x57 := hvs x57 (List.mem_of_getElem? hx57)
 refine l_q rfl rfl (q_loadGA (m := 3) rfl (by kernel_rfl) (by kernel_rfl) (hV.mono hS50.base) (row_take hx57 (c := vo) (m := 3) (fun _ => rfl)) rfl (by decide)) ?_
 refine l_e rfl (fun K hK => ?_)
 refine e_alloc (zv := .agg #[.int .i64 0, .int .i64 0, .bool false]) hS50 (by kernel_rfl) (fun b58 w58 (hS58 : St _ _ [.blk b58 (.cells #[.int .i64 (0 : Int), .int .i64 (0 : Int), .bool false] 45), co k kw nd inc cnt mb none [] 0 T, wk kw kd wa wc rs, dk kd da dc l 0 l.length, .fz g, _, .ow 3 1 Ya Y.length Yc (iv Y), .ow 3 1 Ra R.length Rc (iv R), .ow 3 1 CMa CM.length CMc (iv CM), .ow 3 1 ABa AB.length ABc (iv AB)] _) => ?_)
 clear hS50
 refine hK _ _ ?_; clear hK K
 refine l_e rfl (fun K hK => ?_)
 refine e_storeA hS58 rfl rfl (by kernel_rfl) (by repeat' (first | exact trivial | refine ⟨by first | rfl | assumption | exact one_if (by assumption), ?_⟩)) (i := 0) rfl rfl (fun w59 (hS59 : St _ _ [.blk b58 (.cells #[.int .i64 x57.nd, .int .i64 x57.k, .bool x57.p] 45), _, _, _, .fz g, _, _, _, _, _] _) => ?_)
 clear hS58
 refine hK _ _ ?_; clear hK K
 refine l_nil ?_
 refine hK56 _ _ ?_
 refine wp_seq_k (fun K60 hK60 => ?_)
 refine wp_region_lit ?_
 refine l_q rfl rfl (q_fieldAddr (ft := 3) (o := 0) rfl (by kernel_rfl)) ?_
 refine l_q rfl rfl (q_load1 rfl (by kernel_rfl) (hS59.cell (i := 0) rfl rfl)) ?_
 refine l_e rfl (fun K hK => ?_)
 refine e_call (by kernel_rfl) (pick13_ok x57.nd 16 (by first | omega | (simp only [zll] <;> omega)) (by first | omega | (simp only [zll] <;> omega)) _) rfl (after_R hS59 (fun v61 w61 hv61 hS61 => ?_))
 clear hS59
 obtain rfl := hv61
 have hpk61 := pickN_lt x57.nd (n := 16) (by omega)
 refine hK _ _ ?_; clear hK K
 refine l_q rfl rfl (q_assignI rfl) ?_
 refine l_nil ?_
 refine hK60 _ _ ?_
 refine wp_seq_k (fun K62 hK62 => ?_)
 refine wp_region_lit ?_
 refine l_q rfl rfl (q_moveP rfl) ?_
 refine l_q rfl rfl (q_moveI rfl) ?_
 refine l_e rfl (fun K hK => ?_)
 have hS64 := hS61.fr4; clear hS61
 have hS65 := hS64.fr2; clear hS64
 refine e_call (by kernel_rfl) (state_any k kw nd inc cnt mb none [] 0 T hT g LOk.nil (by first | omega | (simp only [zll] <;> omega)) nd _ (St.begin (Γ := [_, _]) hS65)) rfl (after_M (Γ1 := [_, _]) hS65 (fun v63 G63 w63 hv63 hS63 => ?_))
 clear hS65
 obtain ⟨a63, rfl, rfl, hE63⟩ := hv63
 have hS66 : St _ _ [_, .fz g, _, _, _, _, _, _, _, _] _ := hS63; clear hS63
 refine hK _ _ ?_; clear hK K
 refine l_q rfl rfl (q_assignI rfl) ?_
 refine l_nil ?_
 refine hK62 _ _ ?_
 refine wp_seq_k (fun K67 hK67 => ?_)
 refine wp_seq_k (fun K68 hK68 => ?_)
 refine wp_region_lit ?_
 refine l_q rfl rfl (q_moveP rfl) ?_
 refine l_q rfl rfl (q_fieldAddr (ft := 3) (o := 1) rfl (by kernel_rfl)) ?_
 refine l_q rfl rfl (q_load1 rfl (by kernel_rfl) (hS66.cell (i := 2) rfl rfl)) ?_
 refine l_e rfl (fun K hK => ?_)
 refine e_call (by kernel_rfl) (kind_ok x57.k (by omega) _) rfl (after_R hS66 (fun v69 w69 hv69 hS69 => ?_))
 clear hS66
 obtain rfl := hv69
 have hkd69 := kindV_in x57.k
 refine hK _ _ ?_; clear hK K
 refine l_q rfl rfl (q_moveI rfl) ?_
 refine l_q rfl rfl (q_moveI rfl) ?_
 refine l_q rfl rfl (q_moveI rfl) ?_
 refine l_q rfl rfl (q_build (ps := [(0, 1), (1, 1), (2, 1), (3, 1), (4, 1)]) (zv := .agg #[.int .i64 0, .int .i64 0, .int .i64 0, .int .i64 0, .slice none 0 0]) (by kernel_rfl) (by kernel_rfl) rfl (by repeat' (first | exact trivial | refine ⟨fun _ => by first | rfl | assumption | exact one_if (by assumption), ?_⟩ | refine ⟨fun ⟨_, h⟩ => by simp at h, ?_⟩)) rfl) ?_
 refine l_e rfl (fun K hK => ?_)
 have hS71 := hS69.fr1; clear hS69
 have hS72 := hS71.fr4; clear hS71
 have hS73 := hS72.fr4; clear hS72
 have hS74 := hS73.fr3; clear hS73
 refine e_call (by kernel_rfl) (hear_any k kw nd inc cnt mb none [] 0 T hT g LOk.nil (by first | omega | (simp only [zll] <;> omega)) kd wa wc rs da dc l 0 l.length (by first | omega | (simp only [zll] <;> omega)) hl (by first | omega | (simp only [zll] <;> omega)) (by first | omega | (simp only [zll] <;> omega)) hR (Lr.mk (kindV x57.k) (((pickN x57.nd 16) : Nat) : Int) nd nd []) none 0 0 rfl (by first | omega | (simp only [zll] <;> omega)) _ _ ((fun _ _ e => by cases e) : Rog [_, _, _, _] _ (fun _ => none)) SlG.nil (St.begin (Γ := [_, _, _, _]) hS74)) rfl (after_M (Γ1 := [_, _, _, _]) hS74 (fun v70 G70 w70 hv70 hS70 => ?_))
 clear hS74
 obtain ⟨a70, oa70, oc70, O70, T70, wa70, wc70, rs70, da70, dc70, l70, s70, g70, rfl, rfl, hle70, hO70, hT70, hE70, hrs70, hrl70, hGr70⟩ := hv70
 have hS75 : St _ _ [co k kw nd inc cnt mb oa70 O70 oc70 T70, wk kw kd wa70 wc70 rs70, dk kd da70 dc70 l70 0 s70, .fz g70, _, _, _, _, _, _] _ := hS70; clear hS70
 have hGs70 := hGr70.2.1; have hGl70 := hGr70.2.2.1; have hGm70 := hGr70.2.2.2
 refine hK _ _ ?_; clear hK K
 obtain ⟨Y2, R2, N2, hup⟩ : ∃ Y2 R2 N2, upd (kindV x57.k) (pickN x57.nd 16) (staT (getT (absT T) nd)) ns Y R N = (Y2, R2, N2) := ⟨_, _, _, rfl⟩
 obtain ⟨A2, Ls, l2, hs2, hI2, hd2, hl2, hLs, hst2⟩ := dstep hI hu hnd (k := (kindV x57.k)) (m := (pickN x57.nd 16)) (by omega) hkd69 hup (by omega) hd
 obtain ⟨ea70, eT70, eO70, el70, es70⟩ := val5 hE70 hs2
 subst ea70
 rw [← eT70] at hI2 hd2 hst2
 subst el70 es70
 have hol70 : O70.length ≤ 16 := by rw [los_len eO70]; exact hLs
 have hto5 : toL O70 5 = toR Ls 5 := by rw [toL_abs, eO70]
 have hto6 : toL O70 6 = toR Ls 6 := by rw [toL_abs, eO70]
 rw [← hto5, ← hto6] at hI2
 rw [hE63] at hst2 hup
 obtain ⟨hC1, hC4, hC5⟩ := hI2.checks
 have ht5 := toL_len O70 5; have ht6 := toL_len O70 6
 have hcl : (CM ++ toL O70 5).length = CM.length + (toL O70 5).length := List.length_append
 have hal : (AB ++ toL O70 6).length = AB.length + (toL O70 6).length := List.length_append
 have hYR2 := upd_len hup
 rw [toNat_iff] at hst2
 refine l_q rfl rfl (q_neq rfl rfl) ?_
 refine l_nil ?_
 refine hK68 _ _ ?_
 refine c_condF rfl (by decide) ?_
 refine wp_skip ?_
 refine hK67 _ _ ?_
 refine c_cut (τ := (Option Addr) × Nat × (Option Addr) × Nat) [(10, 11), (14, 14), (103, 137)] (fun x => (fun (ya : Option Addr) (yc : Nat) (ra : Option Addr) (rc : Nat) => [(10, .slice ya Y2.length yc), (11, .slice ra R2.length rc), (14, .bool N2)]) x.1 x.2.1 x.2.2.1 x.2.2.2) (fun x w' => (fun (ya : Option Addr) (yc : Nat) (ra : Option Addr) (rc : Nat) => St w (fun _ => False) [.ow 3 1 ya Y2.length yc (iv Y2), .ow 3 1 ra R2.length rc (iv R2), co k kw nd inc cnt mb oa70 O70 oc70 T70, wk kw kd wa70 wc70 rs70, dk kd da70 dc70 l70 0 l70.length, .fz g70, .blk b58 (.cells #[.int .i64 x57.nd, .int .i64 x57.k, .bool x57.p] 45), .blk b2 (.cells #[.slice na ns.length nc, .slice va vs.length vc, .int .i64 keep] 25), .ow 3 1 CMa CM.length CMc (iv CM), .ow 3 1 ABa AB.length ABc (iv AB)] w') x.1 x.2.1 x.2.2.1 x.2.2.2) (fun K78 hK78 => ?_) (fun x78 j78 w78 hJ78 => ?_)
 refine wp_seq_k (fun K79 hK79 => ?_)
 refine wp_region_lit ?_
 refine l_q rfl rfl (q_moveI rfl) ?_
 refine l_q rfl rfl (q_eql rfl rfl) ?_
 refine l_q rfl rfl (q_moveB rfl) ?_
 refine g_splitL (t := 105) rfl (fun hg80 => ?_) (fun hg80 => ?_)
 have hg80b := hg80
 try simp only [zbb] at hg80
 refine l_on rfl rfl hg80b ?_
 refine l_q rfl rfl (q_fieldAddr (ft := 22) (o := 0) rfl (by kernel_rfl)) ?_
 refine l_on rfl rfl hg80b ?_
 refine l_q rfl rfl (q_load1 rfl (by kernel_rfl) (hS75.cell (i := 5) rfl rfl)) ?_
 refine l_on rfl rfl hg80b ?_
 refine l_q rfl rfl (q_moveI rfl) ?_
 refine l_on rfl rfl hg80b ?_
 refine l_e rfl (fun K hK => ?_)
 refine e_call (by kernel_rfl) (has13_ok ns (((pickN x57.nd 16) : Nat) : Int) ns.length (by first | omega | (simp only [zll] <;> omega)) (by first | omega | (simp only [zll] <;> omega)) _ _ _ (hN.mono hS75.base)) rfl (after_R hS75 (fun v81 w81 hv81 hS81 => ?_))
 clear hS75
 obtain rfl := hv81
 refine hK _ _ ?_; clear hK K
 refine l_q rfl rfl (q_pickT rfl hg80b rfl) ?_
 refine l_q rfl rfl (q_moveB rfl) ?_
 refine g_splitL (t := 111) rfl (fun hg82 => ?_) (fun hg82 => ?_)
 have hg82b := hg82
 try simp only [zbb] at hg82
 refine l_on rfl rfl hg82b ?_
 refine l_q rfl rfl (q_moveS rfl) ?_
 refine l_on rfl rfl hg82b ?_
 refine l_q rfl rfl (q_moveI rfl) ?_
 refine l_on rfl rfl hg82b ?_
 refine l_e rfl (fun K hK => ?_)
 refine e_call (by kernel_rfl) (has13_ok Y (((pickN x57.nd 16) : Nat) : Int) Y.length (by first | omega | (simp only [zll] <;> omega)) (by first | omega | (simp only [zll] <;> omega)) _ _ _ (hS81.owG (i := 6) rfl)) rfl (after_R hS81 (fun v83 w83 hv83 hS83 => ?_))
 clear hS81
 obtain rfl := hv83
 refine hK _ _ ?_; clear hK K
 refine l_on rfl rfl hg82b ?_
 refine l_q rfl rfl (q_not rfl) ?_
 refine l_q rfl rfl (q_pickT rfl hg82b rfl) ?_
 refine l_q rfl rfl (q_moveB rfl) ?_
 refine g_splitL (t := 117) rfl (fun hg84 => ?_) (fun hg84 => ?_)
 have hg84b := hg84
 try simp only [zbb] at hg84
 refine l_on rfl rfl hg84b ?_
 refine l_q rfl rfl (q_moveS rfl) ?_
 refine l_on rfl rfl hg84b ?_
 refine l_q rfl rfl (q_moveI rfl) ?_
 refine l_on rfl rfl hg84b ?_
 refine l_e rfl (fun K hK => ?_)
 refine e_call (by kernel_rfl) (has13_ok R (((pickN x57.nd 16) : Nat) : Int) R.length (by first | omega | (simp only [zll] <;> omega)) (by first | omega | (simp only [zll] <;> omega)) _ _ _ (hS83.owG (i := 7) rfl)) rfl (after_R hS83 (fun v85 w85 hv85 hS85 => ?_))
 clear hS83
 obtain rfl := hv85
 refine hK _ _ ?_; clear hK K
 refine l_on rfl rfl hg84b ?_
 refine l_q rfl rfl (q_not rfl) ?_
 refine l_q rfl rfl (q_pickT rfl hg84b rfl) ?_
 refine l_nil ?_
 refine hK79 _ _ ?_
 refine c_cond rfl (fun hc86 => ?_) (fun hc86 => ?_)
 have hc86b := hc86
 try simp only [zbb] at hc86
 refine wp_seq_k (fun K87 hK87 => ?_)
 refine wp_region_lit ?_
 refine l_q rfl rfl (q_fieldAddr (ft := 3) (o := 1) rfl (by kernel_rfl)) ?_
 refine l_q rfl rfl (q_load1 rfl (by kernel_rfl) (hS85.cell (i := 4) rfl rfl)) ?_
 refine l_e rfl (fun K hK => ?_)
 refine e_call (by kernel_rfl) (kind_ok x57.k (by omega) _) rfl (after_R hS85 (fun v88 w88 hv88 hS88 => ?_))
 clear hS85
 obtain rfl := hv88
 have hkd88 := kindV_in x57.k
 refine hK _ _ ?_; clear hK K
 refine l_nil ?_
 refine hK87 _ _ ?_
 refine wp_block ?_
 refine wp_seq_k (fun K89 hK89 => ?_)
 refine wp_region_lit ?_
 rcases hkd88 with hkk | hkk | hkk
 rw [hkk] at hup
 refine l_q rfl rfl (q_eql rfl rfl) ?_
 refine l_q rfl rfl (q_assignB rfl) ?_
 refine l_nil ?_
 refine hK89 _ _ ?_
 refine c_condT rfl (decide_eq_true hkk) ?_
 refine wp_region_lit ?_
 refine l_q rfl rfl (q_moveS rfl) ?_
 refine l_q rfl rfl (q_moveI rfl) ?_
 refine l_e rfl (fun K hK => ?_)
 refine e_buildSlice1 (e := 3) (zv := .int .i64 0) (xs := [.tmp 129]) hS88 (by kernel_rfl) (by kernel_rfl) (by kernel_rfl) rfl rfl rfl rfl (allone (by repeat' (first | exact trivial | refine ⟨by first | rfl | assumption, ?_⟩))) rfl (fun b91 w91 (hS91 : St _ _ [.blk b91 (.cells #[.int .i64 (((pickN x57.nd 16) : Nat) : Int)] 3), _, _, dk kd da70 dc70 l70 0 l70.length, .fz g70, _, _, _, _, _, _] _) => ?_)
 clear hS88
 have hS91o : St _ _ [.ow 3 1 (some ⟨b91, 0, none⟩) 1 1 (iv [(((pickN x57.nd 16) : Nat) : Int)]), _, _, _, .fz g70, _, _, _, _, _, _] _ := hS91.blkOw' (i := 0) (m := 1) (size := 1) (xs := iv [(((pickN x57.nd 16) : Nat) : Int)]) rfl rfl rfl (by decide); clear hS91
 refine hK _ _ ?_; clear hK K
 refine l_e rfl (fun K hK => ?_)
 refine e_app (e := 3) (size := 1) (bytes := 8) (i := 7) (m' := (Y ++ [(((pickN x57.nd 16) : Nat) : Int)]).length) (by kernel_rfl) hS91o rfl rfl rfl (SlG.src (e := 3) (by kernel_rfl) (hS91o.owG (i := 0) rfl) (by first | (simp only [zll, Nat.mul_one]; done) | (simp only [zll]; omega) | rfl | (simp; done)) (by decide) (iv_one _)) (by first | omega | (simp only [zll] <;> omega) | (simp; done)) iv_app (by first | omega | (simp only [maxLen, zll] <;> omega) | (simp only [maxLen]; omega)) (by first | omega | (simp only [zll] <;> omega)) (fun ad92 cp92 w92 (hS92 : St _ _ [_, _, _, _, .fz g70, _, _, .ow 3 1 ad92 ((Y ++ [(((pickN x57.nd 16) : Nat) : Int)]).length) cp92 (iv (Y ++ [(((pickN x57.nd 16) : Nat) : Int)])), _, _, _] _) => ?_)
 clear hS91o
 refine hK _ _ ?_; clear hK K
 refine l_q rfl rfl (q_assignS rfl) ?_
 refine l_nil ?_
 rw [up_2 ⟨by omega, by assumption, by assumption, by assumption⟩] at hup
 injection hup with hY2 hup; injection hup with hR2 hN2
 subst hY2 hR2 hN2
 have hS93 : St _ _ [_, _, _, _, _, .fz g70, _, _, _, _, _] _ := hS92.front (k := 10) rfl rfl; clear hS92
 have hS94 : St _ _ [_, _, _, _, _, _, .fz g70, _, _, _, _] _ := hS93.front (k := 10) rfl rfl; clear hS93
 have hS95 := hS94.fr8; clear hS94
 have hS96 := hS95.fr8; clear hS95
 have hS97 := hS96.fr8; clear hS96
 have hS98 := hS97.fr8; clear hS97
 have hS99 := hS98.fr8; clear hS98
 have hS100 := hS99.fr8; clear hS99
 have hS101 : St _ _ [_, _, _, _, .fz g70, _, _, _, _, _, _] _ := hS100.front (k := 10) rfl rfl; clear hS100
 have hS102 : St _ _ [_, _, _, _, _, .fz g70, _, _, _, _, _] _ := hS101.front (k := 10) rfl rfl; clear hS101
 have hS103 : St _ _ [_, _, _, _, _, .fz g70, _, _, _, _] _ := hS102.only 10; clear hS102
 refine hK78 _ _ (came (⟨ad92, cp92, Ra, Rc⟩) (by repeat' (first | exact Agree.refl _ _ | refine Agree.up ?_ rfl | refine Agree.hav2 ?_ rfl | refine Agree.ups2 ?_ rfl)) (by repeat' (first | exact trivial | refine ⟨by first | rfl | assumption, ?_⟩)) ?_)
 exact hS103
 rw [hkk] at hup
 refine l_q rfl rfl (q_eql rfl rfl) ?_
 refine l_q rfl rfl (q_assignB rfl) ?_
 refine l_nil ?_
 refine hK89 _ _ ?_
 refine c_condF rfl (decide_eq_false (by omega)) ?_
 refine wp_seq_k (fun K105 hK105 => ?_)
 refine wp_region_lit ?_
 refine l_q rfl rfl (q_eql rfl rfl) ?_
 refine l_q rfl rfl (q_assignB rfl) ?_
 refine l_nil ?_
 refine hK105 _ _ ?_
 refine c_condT rfl (decide_eq_true hkk) ?_
 refine wp_region_lit ?_
 refine l_q rfl rfl (q_moveS rfl) ?_
 refine l_q rfl rfl (q_moveI rfl) ?_
 refine l_e rfl (fun K hK => ?_)
 refine e_buildSlice1 (e := 3) (zv := .int .i64 0) (xs := [.tmp 135]) hS88 (by kernel_rfl) (by kernel_rfl) (by kernel_rfl) rfl rfl rfl rfl (allone (by repeat' (first | exact trivial | refine ⟨by first | rfl | assumption, ?_⟩))) rfl (fun b107 w107 (hS107 : St _ _ [.blk b107 (.cells #[.int .i64 (((pickN x57.nd 16) : Nat) : Int)] 3), _, _, _, .fz g70, _, _, _, _, _, _] _) => ?_)
 clear hS88
 have hS107o : St _ _ [.ow 3 1 (some ⟨b107, 0, none⟩) 1 1 (iv [(((pickN x57.nd 16) : Nat) : Int)]), _, _, _, .fz g70, _, _, _, _, _, _] _ := hS107.blkOw' (i := 0) (m := 1) (size := 1) (xs := iv [(((pickN x57.nd 16) : Nat) : Int)]) rfl rfl rfl (by decide); clear hS107
 refine hK _ _ ?_; clear hK K
 refine l_e rfl (fun K hK => ?_)
 refine e_app (e := 3) (size := 1) (bytes := 8) (i := 8) (m' := (R ++ [(((pickN x57.nd 16) : Nat) : Int)]).length) (by kernel_rfl) hS107o rfl rfl rfl (SlG.src (e := 3) (by kernel_rfl) (hS107o.owG (i := 0) rfl) (by first | (simp only [zll, Nat.mul_one]; done) | (simp only [zll]; omega) | rfl | (simp; done)) (by decide) (iv_one _)) (by first | omega | (simp only [zll] <;> omega) | (simp; done)) iv_app (by first | omega | (simp only [maxLen, zll] <;> omega) | (simp only [maxLen]; omega)) (by first | omega | (simp only [zll] <;> omega)) (fun ad108 cp108 w108 (hS108 : St _ _ [_, _, _, _, .fz g70, _, _, _, .ow 3 1 ad108 ((R ++ [(((pickN x57.nd 16) : Nat) : Int)]).length) cp108 (iv (R ++ [(((pickN x57.nd 16) : Nat) : Int)])), _, _] _) => ?_)
 clear hS107o
 refine hK _ _ ?_; clear hK K
 refine l_q rfl rfl (q_assignS rfl) ?_
 refine l_nil ?_
 rw [up_4 ⟨by omega, by assumption, by assumption, by assumption⟩] at hup
 injection hup with hY2 hup; injection hup with hR2 hN2
 subst hY2 hR2 hN2
 have hS109 : St _ _ [_, _, _, _, _, .fz g70, _, _, _, _, _] _ := hS108.front (k := 10) rfl rfl; clear hS108
 have hS110 : St _ _ [_, _, _, _, _, _, .fz g70, _, _, _, _] _ := hS109.front (k := 10) rfl rfl; clear hS109
 have hS111 := hS110.fr8; clear hS110
 have hS112 := hS111.fr8; clear hS111
 have hS113 := hS112.fr8; clear hS112
 have hS114 := hS113.fr8; clear hS113
 have hS115 := hS114.fr8; clear hS114
 have hS116 := hS115.fr8; clear hS115
 have hS117 : St _ _ [_, _, _, _, .fz g70, _, _, _, _, _, _] _ := hS116.front (k := 10) rfl rfl; clear hS116
 have hS118 : St _ _ [_, _, _, _, _, .fz g70, _, _, _, _, _] _ := hS117.front (k := 10) rfl rfl; clear hS117
 have hS119 : St _ _ [_, _, _, _, _, .fz g70, _, _, _, _] _ := hS118.only 10; clear hS118
 refine hK78 _ _ (came (⟨Ya, Yc, ad108, cp108⟩) (by repeat' (first | exact Agree.refl _ _ | refine Agree.up ?_ rfl | refine Agree.hav2 ?_ rfl | refine Agree.ups2 ?_ rfl)) (by repeat' (first | exact trivial | refine ⟨by first | rfl | assumption, ?_⟩)) ?_)
 exact hS119
 rw [hkk] at hup
 refine l_q rfl rfl (q_eql rfl rfl) ?_
 refine l_q rfl rfl (q_assignB rfl) ?_
 refine l_nil ?_
 refine hK89 _ _ ?_
 refine c_condF rfl (decide_eq_false (by omega)) ?_
 refine wp_seq_k (fun K121 hK121 => ?_)
 refine wp_region_lit ?_
 refine l_q rfl rfl (q_eql rfl rfl) ?_
 refine l_q rfl rfl (q_assignB rfl) ?_
 refine l_nil ?_
 refine hK121 _ _ ?_
 refine c_condF rfl (decide_eq_false (by omega)) ?_
 refine wp_region_lit ?_
 refine l_q rfl rfl (q_assignB rfl) ?_
 refine l_nil ?_
 rw [up_3 ⟨by omega, by assumption, by assumption, by assumption⟩] at hup
 injection hup with hY2 hup; injection hup with hR2 hN2
 subst hY2 hR2 hN2
 have hS123 := hS88.fr9; clear hS88
 have hS124 := hS123.fr9; clear hS123
 have hS125 := hS124.fr7; clear hS124
 have hS126 := hS125.fr7; clear hS125
 have hS127 := hS126.fr7; clear hS126
 have hS128 := hS127.fr7; clear hS127
 have hS129 := hS128.fr7; clear hS128
 have hS130 := hS129.fr7; clear hS129
 have hS131 := hS130.fr9; clear hS130
 have hS132 := hS131.fr9; clear hS131
 refine hK78 _ _ (came (⟨Ya, Yc, Ra, Rc⟩) (by repeat' (first | exact Agree.refl _ _ | refine Agree.up ?_ rfl | refine Agree.hav2 ?_ rfl | refine Agree.ups2 ?_ rfl)) (by repeat' (first | exact trivial | refine ⟨by first | rfl | assumption, ?_⟩)) ?_)
 exact hS132
 have hc86b := hc86
 try simp only [zbb] at hc86
 refine wp_skip ?_
 rw [up_no (by first | (intro hcc; omega) | (rintro ⟨h1, h2, h3, h4⟩; first | omega | contradiction))] at hup
 injection hup with hY2 hup; injection hup with hR2 hN2
 subst hY2 hR2 hN2
 have hS133 := hS85.fr9; clear hS85
 have hS134 := hS133.fr9; clear hS133
 have hS135 := hS134.fr7; clear hS134
 have hS136 := hS135.fr7; clear hS135
 have hS137 := hS136.fr7; clear hS136
 have hS138 := hS137.fr7; clear hS137
 have hS139 := hS138.fr7; clear hS138
 have hS140 := hS139.fr7; clear hS139
 have hS141 := hS140.fr9; clear hS140
 have hS142 := hS141.fr9; clear hS141
 refine hK78 _ _ (came (⟨Ya, Yc, Ra, Rc⟩) (by repeat' (first | exact Agree.refl _ _ | refine Agree.up ?_ rfl | refine Agree.hav2 ?_ rfl | refine Agree.ups2 ?_ rfl)) (by repeat' (first | exact trivial | refine ⟨by first | rfl | assumption, ?_⟩)) ?_)
 exact hS142
 have hg84b := hg84
 try simp only [zbb] at hg84
 refine l_off rfl rfl rfl hg84b ?_
 refine l_off rfl rfl rfl hg84b ?_
 refine l_off rfl rfl rfl hg84b ?_
 refine l_off rfl rfl rfl hg84b ?_
 refine l_q rfl rfl (q_pickF rfl hg84b rfl) ?_
 refine l_nil ?_
 refine hK79 _ _ ?_
 refine c_condF rfl rfl ?_
 refine wp_skip ?_
 rw [up_no (by first | (intro hcc; omega) | (rintro ⟨h1, h2, h3, h4⟩; first | omega | contradiction))] at hup
 injection hup with hY2 hup; injection hup with hR2 hN2
 subst hY2 hR2 hN2
 have hS144 := hS83.fr9; clear hS83
 have hS145 := hS144.fr9; clear hS144
 have hS146 := hS145.fr7; clear hS145
 have hS147 := hS146.fr7; clear hS146
 have hS148 := hS147.fr7; clear hS147
 have hS149 := hS148.fr7; clear hS148
 have hS150 := hS149.fr7; clear hS149
 have hS151 := hS150.fr7; clear hS150
 have hS152 := hS151.fr9; clear hS151
 have hS153 := hS152.fr9; clear hS152
 refine hK78 _ _ (came (⟨Ya, Yc, Ra, Rc⟩) (by repeat' (first | exact Agree.refl _ _ | refine Agree.up ?_ rfl | refine Agree.hav2 ?_ rfl | refine Agree.ups2 ?_ rfl)) (by repeat' (first | exact trivial | refine ⟨by first | rfl | assumption, ?_⟩)) ?_)
 exact hS153
 have hg82b := hg82
 try simp only [zbb] at hg82
 refine l_off rfl rfl rfl hg82b ?_
 refine l_off rfl rfl rfl hg82b ?_
 refine l_off rfl rfl rfl hg82b ?_
 refine l_off rfl rfl rfl hg82b ?_
 refine l_q rfl rfl (q_pickF rfl hg82b rfl) ?_
 refine l_q rfl rfl (q_moveB rfl) ?_
 refine l_off rfl rfl rfl rfl ?_
 refine l_off rfl rfl rfl rfl ?_
 refine l_off rfl rfl rfl rfl ?_
 refine l_off rfl rfl rfl rfl ?_
 refine l_q rfl rfl (q_pickF rfl rfl rfl) ?_
 refine l_nil ?_
 refine hK79 _ _ ?_
 refine c_condF rfl rfl ?_
 refine wp_skip ?_
 rw [up_no (by first | (intro hcc; omega) | (rintro ⟨h1, h2, h3, h4⟩; first | omega | contradiction))] at hup
 injection hup with hY2 hup; injection hup with hR2 hN2
 subst hY2 hR2 hN2
 have hS155 := hS81.fr9; clear hS81
 have hS156 := hS155.fr9; clear hS155
 have hS157 := hS156.fr7; clear hS156
 have hS158 := hS157.fr7; clear hS157
 have hS159 := hS158.fr7; clear hS158
 have hS160 := hS159.fr7; clear hS159
 have hS161 := hS160.fr7; clear hS160
 have hS162 := hS161.fr7; clear hS161
 have hS163 := hS162.fr9; clear hS162
 have hS164 := hS163.fr9; clear hS163
 refine hK78 _ _ (came (⟨Ya, Yc, Ra, Rc⟩) (by repeat' (first | exact Agree.refl _ _ | refine Agree.up ?_ rfl | refine Agree.hav2 ?_ rfl | refine Agree.ups2 ?_ rfl)) (by repeat' (first | exact trivial | refine ⟨by first | rfl | assumption, ?_⟩)) ?_)
 exact hS164
 have hg80b := hg80
 try simp only [zbb] at hg80
 refine l_off rfl rfl rfl hg80b ?_
 refine l_off rfl rfl rfl hg80b ?_
 refine l_off rfl rfl rfl hg80b ?_
 refine l_off rfl rfl rfl hg80b ?_
 refine l_q rfl rfl (q_pickF rfl hg80b rfl) ?_
 refine l_q rfl rfl (q_moveB rfl) ?_
 refine l_off rfl rfl rfl rfl ?_
 refine l_off rfl rfl rfl rfl ?_
 refine l_off rfl rfl rfl rfl ?_
 refine l_off rfl rfl rfl rfl ?_
 refine l_q rfl rfl (q_pickF rfl rfl rfl) ?_
 refine l_q rfl rfl (q_moveB rfl) ?_
 refine l_off rfl rfl rfl rfl ?_
 refine l_off rfl rfl rfl rfl ?_
 refine l_off rfl rfl rfl rfl ?_
 refine l_off rfl rfl rfl rfl ?_
 refine l_q rfl rfl (q_pickF rfl rfl rfl) ?_
 refine l_nil ?_
 refine hK79 _ _ ?_
 refine c_condF rfl rfl ?_
 refine wp_skip ?_
 rw [up_no (by first | (intro hcc; omega) | (rintro ⟨h1, h2, h3, h4⟩; first | omega | contradiction))] at hup
 injection hup with hY2 hup; injection hup with hR2 hN2
 subst hY2 hR2 hN2
 have hS166 := hS75.fr9; clear hS75
 have hS167 := hS166.fr9; clear hS166
 have hS168 := hS167.fr7; clear hS167
 have hS169 := hS168.fr7; clear hS168
 have hS170 := hS169.fr7; clear hS169
 have hS171 := hS170.fr7; clear hS170
 have hS172 := hS171.fr7; clear hS171
 have hS173 := hS172.fr7; clear hS172
 have hS174 := hS173.fr9; clear hS173
 have hS175 := hS174.fr9; clear hS174
 refine hK78 _ _ (came (⟨Ya, Yc, Ra, Rc⟩) (by repeat' (first | exact Agree.refl _ _ | refine Agree.up ?_ rfl | refine Agree.hav2 ?_ rfl | refine Agree.ups2 ?_ rfl)) (by repeat' (first | exact trivial | refine ⟨by first | rfl | assumption, ?_⟩)) ?_)
 exact hS175
 obtain ⟨ya, yc, ra, rc⟩ := x78
 have hS78 := hJ78
 try dsimp only at hS78 ⊢
 refine wp_seq_k (fun K176 hK176 => ?_)
 refine wp_region_lit ?_
 refine l_q rfl rfl (q_moveS rfl) ?_
 refine l_q rfl rfl (q_lenSl (e := 3) rfl (by kernel_rfl)) ?_
 refine l_q rfl rfl (q_moveS rfl) ?_
 refine l_q rfl rfl (q_lenSl (e := 3) rfl (by kernel_rfl)) ?_
 refine l_q rfl rfl (q_addx rfl rfl (by first | decide | omega) (by first | decide | omega)) ?_
 refine l_q rfl rfl (q_fieldAddr (ft := 22) (o := 0) rfl (by kernel_rfl)) ?_
 refine l_q rfl rfl (q_load1 rfl (by kernel_rfl) (hS78.cell (i := 7) rfl rfl)) ?_
 refine l_q rfl rfl (q_lenSl (e := 3) rfl (by kernel_rfl)) ?_
 refine l_q rfl rfl (q_eql rfl rfl) ?_
 refine l_q rfl rfl (q_assignB rfl) ?_
 refine l_nil ?_
 refine hK176 _ _ ?_
 refine wp_seq_k (fun K177 hK177 => ?_)
 refine wp_region_lit ?_
 refine l_q rfl rfl (q_moveP rfl) ?_
 refine l_q rfl rfl (q_moveI rfl) ?_
 refine l_e rfl (fun K hK => ?_)
 have hS179 := hS78.fr5; clear hS78
 have hS180 := hS179.fr3; clear hS179
 refine e_call (by kernel_rfl) (state_any k kw nd inc cnt mb oa70 O70 oc70 T70 hT70 g70 hO70 (by first | omega | (simp only [zll] <;> omega)) nd _ (St.begin (Γ := [_, _]) hS180)) rfl (after_M (Γ1 := [_, _]) hS180 (fun v178 G178 w178 hv178 hS178 => ?_))
 clear hS180
 obtain ⟨a178, rfl, rfl, hE178⟩ := hv178
 have hS181 : St _ _ [_, .fz g70, .ow 3 1 ya Y2.length yc (iv Y2), .ow 3 1 ra R2.length rc (iv R2), _, _, _, _, _, _] _ := hS178; clear hS178
 refine hK _ _ ?_; clear hK K
 rw [hE178] at hst2 hC4 hC5
 refine l_q rfl rfl (q_assignI rfl) ?_
 refine l_nil ?_
 refine hK177 _ _ ?_
 refine wp_seq_k (fun K182 hK182 => ?_)
 refine wp_region_lit ?_
 refine l_q rfl rfl (q_moveP rfl) ?_
 refine l_e rfl (fun K hK => ?_)
 refine e_call (by kernel_rfl) (out_ok k kw nd inc cnt mb oa70 O70 oc70 T70 hT70 g70 hO70 (by first | omega | (simp only [zll] <;> omega)) _ (St.begin (Γ := [_, _]) hS181)) rfl (after_M (Γ1 := [_, _]) hS181 (fun v183 G183 w183 hv183 hS183 => ?_))
 clear hS181
 obtain ⟨rfl, rfl⟩ := hv183
 have hS184 : St _ _ [.ow 42 5 oa70 O70.length oc70 (List.flatMap lo O70), co k kw nd inc cnt mb none [] 0 T70, .fz g70, _, _, _, _, _, _, _, _] _ := hS183; clear hS183
 refine hK _ _ ?_; clear hK K
 refine l_q rfl rfl (q_assignS rfl) ?_
 refine l_nil ?_
 refine hK182 _ _ ?_
 refine wp_seq_k (fun K185 hK185 => ?_)
 refine wp_region_lit ?_
 refine l_q rfl rfl (q_moveS rfl) ?_
 refine l_q rfl rfl (q_moveS rfl) ?_
 refine l_e rfl (fun K hK => ?_)
 refine e_call (by kernel_rfl) (to_ok O70 (5 : Int) O70.length (by first | omega | (simp only [zll] <;> omega)) (by first | omega | (simp only [zll] <;> omega)) _ _ _ (hS184.owG (i := 0) rfl)) rfl (after_N hS184 (fun v186 G186 w186 hv186 hS186 => ?_))
 clear hS184
 obtain ⟨ad186, cp186, rfl, rfl⟩ := hv186
 have hS187 : St _ _ [.ow 3 1 ad186 ((toL O70 (5 : Int)).length) cp186 (iv (toL O70 (5 : Int))), _, _, .fz g70, _, _, _, _, _, _, _, _] _ := hS186; clear hS186
 refine hK _ _ ?_; clear hK K
 refine l_e rfl (fun K hK => ?_)
 refine e_app (e := 3) (size := 1) (bytes := 8) (i := 10) (m' := (CM ++ (toL O70 (5 : Int))).length) (by kernel_rfl) hS187 rfl rfl rfl (SlG.src (e := 3) (by kernel_rfl) (hS187.owG (i := 0) rfl) (by first | (simp only [zll, Nat.mul_one]; done) | (simp only [zll]; omega) | rfl | (simp; done)) (by decide) (iv_one _)) (by first | omega | (simp only [zll] <;> omega) | (simp; done)) iv_app (by first | omega | (simp only [maxLen, zll] <;> omega) | (simp only [maxLen]; omega)) (by first | omega | (simp only [zll] <;> omega)) (fun ad188 cp188 w188 (hS188 : St _ _ [_, _, _, .fz g70, _, _, _, _, _, _, .ow 3 1 ad188 ((CM ++ (toL O70 (5 : Int))).length) cp188 (iv (CM ++ (toL O70 (5 : Int)))), _] _) => ?_)
 clear hS187
 refine hK _ _ ?_; clear hK K
 refine l_q rfl rfl (q_assignS rfl) ?_
 refine l_nil ?_
 refine hK185 _ _ ?_
 refine wp_seq_k (fun K189 hK189 => ?_)
 refine wp_region_lit ?_
 refine l_q rfl rfl (q_moveS rfl) ?_
 refine l_q rfl rfl (q_moveS rfl) ?_
 refine l_e rfl (fun K hK => ?_)
 refine e_call (by kernel_rfl) (to_ok O70 (6 : Int) O70.length (by first | omega | (simp only [zll] <;> omega)) (by first | omega | (simp only [zll] <;> omega)) _ _ _ (hS188.owG (i := 1) rfl)) rfl (after_N hS188 (fun v190 G190 w190 hv190 hS190 => ?_))
 clear hS188
 obtain ⟨ad190, cp190, rfl, rfl⟩ := hv190
 have hS191 : St _ _ [.ow 3 1 ad190 ((toL O70 (6 : Int)).length) cp190 (iv (toL O70 (6 : Int))), _, _, _, .fz g70, _, _, _, _, _, _, _, _] _ := hS190; clear hS190
 refine hK _ _ ?_; clear hK K
 refine l_e rfl (fun K hK => ?_)
 refine e_app (e := 3) (size := 1) (bytes := 8) (i := 12) (m' := (AB ++ (toL O70 (6 : Int))).length) (by kernel_rfl) hS191 rfl rfl rfl (SlG.src (e := 3) (by kernel_rfl) (hS191.owG (i := 0) rfl) (by first | (simp only [zll, Nat.mul_one]; done) | (simp only [zll]; omega) | rfl | (simp; done)) (by decide) (iv_one _)) (by first | omega | (simp only [zll] <;> omega) | (simp; done)) iv_app (by first | omega | (simp only [maxLen, zll] <;> omega) | (simp only [maxLen]; omega)) (by first | omega | (simp only [zll] <;> omega)) (fun ad192 cp192 w192 (hS192 : St _ _ [_, _, _, _, .fz g70, _, _, _, _, _, _, _, .ow 3 1 ad192 ((AB ++ (toL O70 (6 : Int))).length) cp192 (iv (AB ++ (toL O70 (6 : Int))))] _) => ?_)
 clear hS191
 refine hK _ _ ?_; clear hK K
 refine l_q rfl rfl (q_assignS rfl) ?_
 refine l_nil ?_
 refine hK189 _ _ ?_
 refine c_cut (τ := Unit) [(4, 4), (160, 207)] (fun x => []) (fun x w' => St w (fun _ => False) [.ow 3 1 ad190 ((toL O70 (6 : Int)).length) cp190 (iv (toL O70 (6 : Int))), .ow 3 1 ad186 ((toL O70 (5 : Int)).length) cp186 (iv (toL O70 (5 : Int))), .ow 42 5 oa70 O70.length oc70 (List.flatMap lo O70), co k kw nd inc cnt mb none [] 0 T70, .fz g70, .ow 3 1 ya Y2.length yc (iv Y2), .ow 3 1 ra R2.length rc (iv R2), wk kw kd wa70 wc70 rs70, dk kd da70 dc70 l70 0 l70.length, .blk b58 (.cells #[.int .i64 x57.nd, .int .i64 x57.k, .bool x57.p] 45), .blk b2 (.cells #[.slice na ns.length nc, .slice va vs.length vc, .int .i64 keep] 25), .ow 3 1 ad188 ((CM ++ (toL O70 (5 : Int))).length) cp188 (iv (CM ++ (toL O70 (5 : Int)))), .ow 3 1 ad192 ((AB ++ (toL O70 (6 : Int))).length) cp192 (iv (AB ++ (toL O70 (6 : Int))))] w') (fun K194 hK194 => ?_) (fun x194 j194 w194 hJ194 => ?_)
 refine wp_seq_k (fun K195 hK195 => ?_)
 refine wp_region_lit ?_
 refine l_q rfl rfl (q_moveS rfl) ?_
 refine l_q rfl rfl (q_lenSl (e := 3) rfl (by kernel_rfl)) ?_
 refine l_q rfl rfl (q_gtr rfl rfl) ?_
 refine l_q rfl rfl (q_moveB rfl) ?_
 refine g_splitL (t := 163) rfl (fun hg196 => ?_) (fun hg196 => ?_)
 have hg196b := hg196
 try simp only [zbb] at hg196
 obtain ⟨hall, hNf, hYp, hAB⟩ := hC1 (by omega)
 have hnz := (toNat_iff N2).1 hNf
 refine l_on rfl rfl hg196b ?_
 refine l_q rfl rfl (q_moveB rfl) ?_
 refine l_on rfl rfl hg196b ?_
 refine l_q rfl rfl (q_not rfl) ?_
 refine l_on rfl rfl hg196b ?_
 refine l_q rfl rfl (q_moveB rfl) ?_
 refine l_on rfl rfl (by simp only [Bool.not_eq_false', decide_eq_true_eq]; omega) ?_
 refine l_q rfl rfl (q_moveB rfl) ?_
 refine l_on rfl rfl hg196b ?_
 refine l_q rfl rfl (q_pickF rfl (by simp only [Bool.not_eq_false', decide_eq_true_eq]; omega) rfl) ?_
 refine l_on rfl rfl hg196b ?_
 refine l_q rfl rfl (q_moveB rfl) ?_
 refine l_on rfl rfl hNf ?_
 refine l_q rfl rfl (q_moveS rfl) ?_
 refine l_on rfl rfl hNf ?_
 refine l_q rfl rfl (q_lenSl (e := 3) rfl (by kernel_rfl)) ?_
 refine l_on rfl rfl hNf ?_
 refine l_q rfl rfl (q_eql rfl rfl) ?_
 refine l_on rfl rfl hg196b ?_
 refine l_q rfl rfl (q_pickF rfl hNf rfl) ?_
 refine l_q rfl rfl (q_pickT rfl hg196b rfl) ?_
 refine l_q rfl rfl (q_moveB rfl) ?_
 refine l_on rfl rfl (decide_eq_false (by omega)) ?_
 refine l_q rfl rfl (q_moveS rfl) ?_
 refine l_on rfl rfl (decide_eq_false (by omega)) ?_
 refine l_q rfl rfl (q_lenSl (e := 3) rfl (by kernel_rfl)) ?_
 refine l_on rfl rfl (decide_eq_false (by omega)) ?_
 refine l_q rfl rfl (q_gtr rfl rfl) ?_
 refine l_on rfl rfl (decide_eq_false (by omega)) ?_
 refine l_q rfl rfl (q_moveB rfl) ?_
 refine l_on rfl rfl (decide_eq_true (by omega)) ?_
 refine l_q rfl rfl (q_moveS rfl) ?_
 refine l_on rfl rfl (decide_eq_true (by omega)) ?_
 refine l_q rfl rfl (q_lenSl (e := 3) rfl (by kernel_rfl)) ?_
 refine l_on rfl rfl (decide_eq_true (by omega)) ?_
 refine l_q rfl rfl (q_gtr rfl rfl) ?_
 refine l_on rfl rfl (decide_eq_false (by omega)) ?_
 refine l_q rfl rfl (q_pickT rfl (decide_eq_true (by omega)) rfl) ?_
 refine l_q rfl rfl (q_pickF rfl (decide_eq_false (by omega)) rfl) ?_
 refine l_q rfl rfl (q_moveB rfl) ?_
 refine l_on rfl rfl (decide_eq_false (by omega)) ?_
 refine l_q rfl rfl (q_moveI rfl) ?_
 refine l_on rfl rfl (decide_eq_false (by omega)) ?_
 refine l_q rfl rfl (q_eql rfl rfl) ?_
 refine l_on rfl rfl (decide_eq_false (by omega)) ?_
 refine l_q rfl rfl (q_moveI rfl) ?_
 refine l_on rfl rfl (decide_eq_false (by omega)) ?_
 refine l_q rfl rfl (q_eql rfl rfl) ?_
 refine l_on rfl rfl (decide_eq_false (by omega)) ?_
 refine l_q rfl rfl (q_moveB rfl) ?_
 refine g_splitL (t := 190) rfl (fun hg202 => ?_) (fun hg202 => ?_)
 have hg202b := hg202
 try simp only [zbb] at hg202
 refine l_off rfl rfl rfl hg202b ?_
 refine l_off rfl rfl rfl hg202b ?_
 refine l_off rfl rfl rfl hg202b ?_
 refine l_offN rfl rfl rfl ?_
 refine l_off rfl rfl rfl hg202b ?_
 refine l_off rfl rfl rfl hg202b ?_
 refine l_offN rfl rfl rfl ?_
 refine l_offN rfl rfl rfl ?_
 refine l_off rfl rfl rfl hg202b ?_
 refine l_off rfl rfl rfl hg202b ?_
 refine l_offN rfl rfl rfl ?_
 refine l_offN rfl rfl rfl ?_
 refine l_offN rfl rfl rfl ?_
 refine l_off rfl rfl rfl hg202b ?_
 refine l_on rfl rfl (decide_eq_false (by omega)) ?_
 refine l_q rfl rfl (q_pickT rfl hg202b rfl) ?_
 refine l_on rfl rfl (decide_eq_false (by omega)) ?_
 refine l_q rfl rfl (q_bc (b := false) (by first | exact neq_tt (by omega) | exact neq_ff (by omega) | exact neq_dd (by omega)) (q_bool_neq rfl rfl (by kernel_rfl))) ?_
 refine l_q rfl rfl (q_pickF rfl (decide_eq_false (by omega)) rfl) ?_
 refine l_nil ?_
 refine hK195 _ _ ?_
 refine c_condF rfl rfl ?_
 refine wp_skip ?_
 refine hK194 _ _ (came (()) (by repeat' (first | exact Agree.refl _ _ | refine Agree.up ?_ rfl | refine Agree.hav2 ?_ rfl | refine Agree.ups2 ?_ rfl)) (by repeat' (first | exact trivial | refine ⟨by first | rfl | exact int_succ _ | assumption, ?_⟩)) ?_)
 exact hS192
 have hg202b := hg202
 try simp only [zbb] at hg202
 refine l_on rfl rfl hg202b ?_
 refine l_q rfl rfl (q_moveI rfl) ?_
 refine l_on rfl rfl hg202b ?_
 refine l_q rfl rfl (q_eql rfl rfl) ?_
 refine l_on rfl rfl hg202b ?_
 refine l_q rfl rfl (q_moveB rfl) ?_
 refine g_splitL (t := 193) rfl (fun hg204 => ?_) (fun hg204 => ?_)
 have hg204b := hg204
 try simp only [zbb] at hg204
 refine l_on rfl rfl hg204b ?_
 refine l_q rfl rfl (q_moveB rfl) ?_
 refine l_on rfl rfl hg202b ?_
 refine l_q rfl rfl (q_pickT rfl hg204b rfl) ?_
 refine l_on rfl rfl hg202b ?_
 refine l_q rfl rfl (q_moveB rfl) ?_
 refine g_splitL (t := 196) rfl (fun hg205 => ?_) (fun hg205 => ?_)
 have hg205b := hg205
 try simp only [zbb] at hg205
 refine l_on rfl rfl hg205b ?_
 refine l_q rfl rfl (q_moveB rfl) ?_
 refine l_on rfl rfl hg205b ?_
 refine l_q rfl rfl (q_not rfl) ?_
 refine l_on rfl rfl hg202b ?_
 refine l_q rfl rfl (q_pickT rfl hg205b rfl) ?_
 refine l_on rfl rfl hg202b ?_
 refine l_q rfl rfl (q_moveB rfl) ?_
 refine g_splitL (t := 200) rfl (fun hg206 => ?_) (fun hg206 => ?_)
 have hg206b := hg206
 try simp only [zbb] at hg206
 have hnz2 : N2.toNat = 0 := (toNat_iff N2).1 hg206
 refine l_on rfl rfl hg206b ?_
 refine l_q rfl rfl (q_moveS rfl) ?_
 refine l_on rfl rfl hg206b ?_
 refine l_q rfl rfl (q_lenSl (e := 3) rfl (by kernel_rfl)) ?_
 refine l_on rfl rfl hg206b ?_
 refine l_q rfl rfl (q_gtr rfl rfl) ?_
 refine l_on rfl rfl hg202b ?_
 refine l_q rfl rfl (q_pickT rfl hg206b rfl) ?_
 refine l_on rfl rfl (decide_eq_false (by omega)) ?_
 refine l_q rfl rfl (q_pickF rfl hg202b rfl) ?_
 refine l_on rfl rfl (decide_eq_false (by omega)) ?_
 refine l_q rfl rfl (q_bc (b := false) (by first | exact neq_tt (by omega) | exact neq_ff (by omega) | exact neq_dd (by omega)) (q_bool_neq rfl rfl (by kernel_rfl))) ?_
 refine l_q rfl rfl (q_pickF rfl (decide_eq_false (by omega)) rfl) ?_
 refine l_nil ?_
 refine hK195 _ _ ?_
 refine c_condF rfl rfl ?_
 refine wp_skip ?_
 refine hK194 _ _ (came (()) (by repeat' (first | exact Agree.refl _ _ | refine Agree.up ?_ rfl | refine Agree.hav2 ?_ rfl | refine Agree.ups2 ?_ rfl)) (by repeat' (first | exact trivial | refine ⟨by first | rfl | exact int_succ _ | assumption, ?_⟩)) ?_)
 exact hS192
 have hg206b := hg206
 try simp only [zbb] at hg206
 have hnz2 : N2.toNat = 1 := by rw [hg206]; rfl
 refine l_off rfl rfl rfl hg206b ?_
 refine l_off rfl rfl rfl hg206b ?_
 refine l_off rfl rfl rfl hg206b ?_
 refine l_on rfl rfl hg202b ?_
 refine l_q rfl rfl (q_pickF rfl hg206b rfl) ?_
 refine l_on rfl rfl (decide_eq_false (by omega)) ?_
 refine l_q rfl rfl (q_pickF rfl hg202b rfl) ?_
 refine l_on rfl rfl (decide_eq_false (by omega)) ?_
 refine l_q rfl rfl (q_bc (b := false) (by first | exact neq_tt (by omega) | exact neq_ff (by omega) | exact neq_dd (by omega)) (q_bool_neq rfl rfl (by kernel_rfl))) ?_
 refine l_q rfl rfl (q_pickF rfl (decide_eq_false (by omega)) rfl) ?_
 refine l_nil ?_
 refine hK195 _ _ ?_
 refine c_condF rfl rfl ?_
 refine wp_skip ?_
 refine hK194 _ _ (came (()) (by repeat' (first | exact Agree.refl _ _ | refine Agree.up ?_ rfl | refine Agree.hav2 ?_ rfl | refine Agree.ups2 ?_ rfl)) (by repeat' (first | exact trivial | refine ⟨by first | rfl | exact int_succ _ | assumption, ?_⟩)) ?_)
 exact hS192
 have hg205b := hg205
 try simp only [zbb] at hg205
 refine l_off rfl rfl rfl hg205b ?_
 refine l_off rfl rfl rfl hg205b ?_
 refine l_on rfl rfl hg202b ?_
 refine l_q rfl rfl (q_pickF rfl hg205b rfl) ?_
 refine l_on rfl rfl hg202b ?_
 refine l_q rfl rfl (q_moveB rfl) ?_
 refine l_off rfl rfl rfl rfl ?_
 refine l_off rfl rfl rfl rfl ?_
 refine l_off rfl rfl rfl rfl ?_
 refine l_on rfl rfl hg202b ?_
 refine l_q rfl rfl (q_pickF rfl rfl rfl) ?_
 refine l_on rfl rfl (decide_eq_false (by omega)) ?_
 refine l_q rfl rfl (q_pickF rfl hg202b rfl) ?_
 refine l_on rfl rfl (decide_eq_false (by omega)) ?_
 refine l_q rfl rfl (q_bc (b := false) (by first | exact neq_tt (by omega) | exact neq_ff (by omega) | exact neq_dd (by omega)) (q_bool_neq rfl rfl (by kernel_rfl))) ?_
 refine l_q rfl rfl (q_pickF rfl (decide_eq_false (by omega)) rfl) ?_
 refine l_nil ?_
 refine hK195 _ _ ?_
 refine c_condF rfl rfl ?_
 refine wp_skip ?_
 refine hK194 _ _ (came (()) (by repeat' (first | exact Agree.refl _ _ | refine Agree.up ?_ rfl | refine Agree.hav2 ?_ rfl | refine Agree.ups2 ?_ rfl)) (by repeat' (first | exact trivial | refine ⟨by first | rfl | exact int_succ _ | assumption, ?_⟩)) ?_)
 exact hS192
 have hg204b := hg204
 try simp only [zbb] at hg204
 refine l_off rfl rfl rfl hg204b ?_
 refine l_on rfl rfl hg202b ?_
 refine l_q rfl rfl (q_pickF rfl hg204b rfl) ?_
 refine l_on rfl rfl hg202b ?_
 refine l_q rfl rfl (q_moveB rfl) ?_
 refine l_off rfl rfl rfl rfl ?_
 refine l_off rfl rfl rfl rfl ?_
 refine l_on rfl rfl hg202b ?_
 refine l_q rfl rfl (q_pickF rfl rfl rfl) ?_
 refine l_on rfl rfl hg202b ?_
 refine l_q rfl rfl (q_moveB rfl) ?_
 refine l_off rfl rfl rfl rfl ?_
 refine l_off rfl rfl rfl rfl ?_
 refine l_off rfl rfl rfl rfl ?_
 refine l_on rfl rfl hg202b ?_
 refine l_q rfl rfl (q_pickF rfl rfl rfl) ?_
 refine l_on rfl rfl (decide_eq_false (by omega)) ?_
 refine l_q rfl rfl (q_pickF rfl hg202b rfl) ?_
 refine l_on rfl rfl (decide_eq_false (by omega)) ?_
 refine l_q rfl rfl (q_bc (b := false) (by first | exact neq_tt (by omega) | exact neq_ff (by omega) | exact neq_dd (by omega)) (q_bool_neq rfl rfl (by kernel_rfl))) ?_
 refine l_q rfl rfl (q_pickF rfl (decide_eq_false (by omega)) rfl) ?_
 refine l_nil ?_
 refine hK195 _ _ ?_
 refine c_condF rfl rfl ?_
 refine wp_skip ?_
 refine hK194 _ _ (came (()) (by repeat' (first | exact Agree.refl _ _ | refine Agree.up ?_ rfl | refine Agree.hav2 ?_ rfl | refine Agree.ups2 ?_ rfl)) (by repeat' (first | exact trivial | refine ⟨by first | rfl | exact int_succ _ | assumption, ?_⟩)) ?_)
 exact hS192
 have hg196b := hg196
 try simp only [zbb] at hg196
 refine l_off rfl rfl rfl hg196b ?_
 refine l_off rfl rfl rfl hg196b ?_
 refine l_off rfl rfl rfl hg196b ?_
 refine l_offN rfl rfl rfl ?_
 refine l_off rfl rfl rfl hg196b ?_
 refine l_off rfl rfl rfl hg196b ?_
 refine l_offN rfl rfl rfl ?_
 refine l_offN rfl rfl rfl ?_
 refine l_offN rfl rfl rfl ?_
 refine l_off rfl rfl rfl hg196b ?_
 refine l_q rfl rfl (q_pickF rfl hg196b rfl) ?_
 refine l_q rfl rfl (q_moveB rfl) ?_
 refine l_on rfl rfl rfl ?_
 refine l_q rfl rfl (q_moveS rfl) ?_
 refine l_on rfl rfl rfl ?_
 refine l_q rfl rfl (q_lenSl (e := 3) rfl (by kernel_rfl)) ?_
 refine l_on rfl rfl rfl ?_
 refine l_q rfl rfl (q_gtr rfl rfl) ?_
 refine l_on rfl rfl rfl ?_
 refine l_q rfl rfl (q_moveB rfl) ?_
 refine l_off rfl rfl rfl (decide_eq_false (by omega)) ?_
 refine l_off rfl rfl rfl (decide_eq_false (by omega)) ?_
 refine l_off rfl rfl rfl (decide_eq_false (by omega)) ?_
 refine l_on rfl rfl rfl ?_
 refine l_q rfl rfl (q_pickF rfl (decide_eq_false (by omega)) rfl) ?_
 refine l_q rfl rfl (q_pickF rfl rfl rfl) ?_
 refine l_q rfl rfl (q_moveB rfl) ?_
 refine l_on rfl rfl rfl ?_
 refine l_q rfl rfl (q_moveI rfl) ?_
 refine l_on rfl rfl rfl ?_
 refine l_q rfl rfl (q_eql rfl rfl) ?_
 refine l_on rfl rfl rfl ?_
 refine l_q rfl rfl (q_moveI rfl) ?_
 refine l_on rfl rfl rfl ?_
 refine l_q rfl rfl (q_eql rfl rfl) ?_
 refine l_on rfl rfl rfl ?_
 refine l_q rfl rfl (q_moveB rfl) ?_
 refine g_splitL (t := 190) rfl (fun hg212 => ?_) (fun hg212 => ?_)
 have hg212b := hg212
 try simp only [zbb] at hg212
 refine l_off rfl rfl rfl hg212b ?_
 refine l_off rfl rfl rfl hg212b ?_
 refine l_off rfl rfl rfl hg212b ?_
 refine l_offN rfl rfl rfl ?_
 refine l_off rfl rfl rfl hg212b ?_
 refine l_off rfl rfl rfl hg212b ?_
 refine l_offN rfl rfl rfl ?_
 refine l_offN rfl rfl rfl ?_
 refine l_off rfl rfl rfl hg212b ?_
 refine l_off rfl rfl rfl hg212b ?_
 refine l_offN rfl rfl rfl ?_
 refine l_offN rfl rfl rfl ?_
 refine l_offN rfl rfl rfl ?_
 refine l_off rfl rfl rfl hg212b ?_
 refine l_on rfl rfl rfl ?_
 refine l_q rfl rfl (q_pickT rfl hg212b rfl) ?_
 refine l_on rfl rfl rfl ?_
 refine l_q rfl rfl (q_bc (b := false) (by first | exact neq_tt (by omega) | exact neq_ff (by omega) | exact neq_dd (by omega)) (q_bool_neq rfl rfl (by kernel_rfl))) ?_
 refine l_q rfl rfl (q_pickF rfl rfl rfl) ?_
 refine l_nil ?_
 refine hK195 _ _ ?_
 refine c_condF rfl rfl ?_
 refine wp_skip ?_
 refine hK194 _ _ (came (()) (by repeat' (first | exact Agree.refl _ _ | refine Agree.up ?_ rfl | refine Agree.hav2 ?_ rfl | refine Agree.ups2 ?_ rfl)) (by repeat' (first | exact trivial | refine ⟨by first | rfl | exact int_succ _ | assumption, ?_⟩)) ?_)
 exact hS192
 have hg212b := hg212
 try simp only [zbb] at hg212
 refine l_on rfl rfl hg212b ?_
 refine l_q rfl rfl (q_moveI rfl) ?_
 refine l_on rfl rfl hg212b ?_
 refine l_q rfl rfl (q_eql rfl rfl) ?_
 refine l_on rfl rfl hg212b ?_
 refine l_q rfl rfl (q_moveB rfl) ?_
 refine g_splitL (t := 193) rfl (fun hg214 => ?_) (fun hg214 => ?_)
 have hg214b := hg214
 try simp only [zbb] at hg214
 refine l_on rfl rfl hg214b ?_
 refine l_q rfl rfl (q_moveB rfl) ?_
 refine l_on rfl rfl hg212b ?_
 refine l_q rfl rfl (q_pickT rfl hg214b rfl) ?_
 refine l_on rfl rfl hg212b ?_
 refine l_q rfl rfl (q_moveB rfl) ?_
 refine g_splitL (t := 196) rfl (fun hg215 => ?_) (fun hg215 => ?_)
 have hg215b := hg215
 try simp only [zbb] at hg215
 refine l_on rfl rfl hg215b ?_
 refine l_q rfl rfl (q_moveB rfl) ?_
 refine l_on rfl rfl hg215b ?_
 refine l_q rfl rfl (q_not rfl) ?_
 refine l_on rfl rfl hg212b ?_
 refine l_q rfl rfl (q_pickT rfl hg215b rfl) ?_
 refine l_on rfl rfl hg212b ?_
 refine l_q rfl rfl (q_moveB rfl) ?_
 refine g_splitL (t := 200) rfl (fun hg216 => ?_) (fun hg216 => ?_)
 have hg216b := hg216
 try simp only [zbb] at hg216
 have hnz2 : N2.toNat = 0 := (toNat_iff N2).1 hg216
 refine l_on rfl rfl hg216b ?_
 refine l_q rfl rfl (q_moveS rfl) ?_
 refine l_on rfl rfl hg216b ?_
 refine l_q rfl rfl (q_lenSl (e := 3) rfl (by kernel_rfl)) ?_
 refine l_on rfl rfl hg216b ?_
 refine l_q rfl rfl (q_gtr rfl rfl) ?_
 refine l_on rfl rfl hg212b ?_
 refine l_q rfl rfl (q_pickT rfl hg216b rfl) ?_
 refine l_on rfl rfl rfl ?_
 refine l_q rfl rfl (q_pickF rfl hg212b rfl) ?_
 refine l_on rfl rfl rfl ?_
 refine l_q rfl rfl (q_bc (b := false) (by first | exact neq_tt (by omega) | exact neq_ff (by omega) | exact neq_dd (by omega)) (q_bool_neq rfl rfl (by kernel_rfl))) ?_
 refine l_q rfl rfl (q_pickF rfl rfl rfl) ?_
 refine l_nil ?_
 refine hK195 _ _ ?_
 refine c_condF rfl rfl ?_
 refine wp_skip ?_
 refine hK194 _ _ (came (()) (by repeat' (first | exact Agree.refl _ _ | refine Agree.up ?_ rfl | refine Agree.hav2 ?_ rfl | refine Agree.ups2 ?_ rfl)) (by repeat' (first | exact trivial | refine ⟨by first | rfl | exact int_succ _ | assumption, ?_⟩)) ?_)
 exact hS192
 have hg216b := hg216
 try simp only [zbb] at hg216
 have hnz2 : N2.toNat = 1 := by rw [hg216]; rfl
 refine l_off rfl rfl rfl hg216b ?_
 refine l_off rfl rfl rfl hg216b ?_
 refine l_off rfl rfl rfl hg216b ?_
 refine l_on rfl rfl hg212b ?_
 refine l_q rfl rfl (q_pickF rfl hg216b rfl) ?_
 refine l_on rfl rfl rfl ?_
 refine l_q rfl rfl (q_pickF rfl hg212b rfl) ?_
 refine l_on rfl rfl rfl ?_
 refine l_q rfl rfl (q_bc (b := false) (by first | exact neq_tt (by omega) | exact neq_ff (by omega) | exact neq_dd (by omega)) (q_bool_neq rfl rfl (by kernel_rfl))) ?_
 refine l_q rfl rfl (q_pickF rfl rfl rfl) ?_
 refine l_nil ?_
 refine hK195 _ _ ?_
 refine c_condF rfl rfl ?_
 refine wp_skip ?_
 refine hK194 _ _ (came (()) (by repeat' (first | exact Agree.refl _ _ | refine Agree.up ?_ rfl | refine Agree.hav2 ?_ rfl | refine Agree.ups2 ?_ rfl)) (by repeat' (first | exact trivial | refine ⟨by first | rfl | exact int_succ _ | assumption, ?_⟩)) ?_)
 exact hS192
 have hg215b := hg215
 try simp only [zbb] at hg215
 refine l_off rfl rfl rfl hg215b ?_
 refine l_off rfl rfl rfl hg215b ?_
 refine l_on rfl rfl hg212b ?_
 refine l_q rfl rfl (q_pickF rfl hg215b rfl) ?_
 refine l_on rfl rfl hg212b ?_
 refine l_q rfl rfl (q_moveB rfl) ?_
 refine l_off rfl rfl rfl rfl ?_
 refine l_off rfl rfl rfl rfl ?_
 refine l_off rfl rfl rfl rfl ?_
 refine l_on rfl rfl hg212b ?_
 refine l_q rfl rfl (q_pickF rfl rfl rfl) ?_
 refine l_on rfl rfl rfl ?_
 refine l_q rfl rfl (q_pickF rfl hg212b rfl) ?_
 refine l_on rfl rfl rfl ?_
 refine l_q rfl rfl (q_bc (b := false) (by first | exact neq_tt (by omega) | exact neq_ff (by omega) | exact neq_dd (by omega)) (q_bool_neq rfl rfl (by kernel_rfl))) ?_
 refine l_q rfl rfl (q_pickF rfl rfl rfl) ?_
 refine l_nil ?_
 refine hK195 _ _ ?_
 refine c_condF rfl rfl ?_
 refine wp_skip ?_
 refine hK194 _ _ (came (()) (by repeat' (first | exact Agree.refl _ _ | refine Agree.up ?_ rfl | refine Agree.hav2 ?_ rfl | refine Agree.ups2 ?_ rfl)) (by repeat' (first | exact trivial | refine ⟨by first | rfl | exact int_succ _ | assumption, ?_⟩)) ?_)
 exact hS192
 have hg214b := hg214
 try simp only [zbb] at hg214
 refine l_off rfl rfl rfl hg214b ?_
 refine l_on rfl rfl hg212b ?_
 refine l_q rfl rfl (q_pickF rfl hg214b rfl) ?_
 refine l_on rfl rfl hg212b ?_
 refine l_q rfl rfl (q_moveB rfl) ?_
 refine l_off rfl rfl rfl rfl ?_
 refine l_off rfl rfl rfl rfl ?_
 refine l_on rfl rfl hg212b ?_
 refine l_q rfl rfl (q_pickF rfl rfl rfl) ?_
 refine l_on rfl rfl hg212b ?_
 refine l_q rfl rfl (q_moveB rfl) ?_
 refine l_off rfl rfl rfl rfl ?_
 refine l_off rfl rfl rfl rfl ?_
 refine l_off rfl rfl rfl rfl ?_
 refine l_on rfl rfl hg212b ?_
 refine l_q rfl rfl (q_pickF rfl rfl rfl) ?_
 refine l_on rfl rfl rfl ?_
 refine l_q rfl rfl (q_pickF rfl hg212b rfl) ?_
 refine l_on rfl rfl rfl ?_
 refine l_q rfl rfl (q_bc (b := false) (by first | exact neq_tt (by omega) | exact neq_ff (by omega) | exact neq_dd (by omega)) (q_bool_neq rfl rfl (by kernel_rfl))) ?_
 refine l_q rfl rfl (q_pickF rfl rfl rfl) ?_
 refine l_nil ?_
 refine hK195 _ _ ?_
 refine c_condF rfl rfl ?_
 refine wp_skip ?_
 refine hK194 _ _ (came (()) (by repeat' (first | exact Agree.refl _ _ | refine Agree.up ?_ rfl | refine Agree.hav2 ?_ rfl | refine Agree.ups2 ?_ rfl)) (by repeat' (first | exact trivial | refine ⟨by first | rfl | exact int_succ _ | assumption, ?_⟩)) ?_)
 exact hS192
 have hS194 := hJ194
 try dsimp only at hS194 ⊢
 refine wp_seq_k (fun K221 hK221 => ?_)
 refine wp_seq_k (fun K222 hK222 => ?_)
 refine wp_region_lit ?_
 refine l_q rfl rfl (q_assignI rfl) ?_
 refine l_nil ?_
 refine hK222 _ _ ?_
 refine wp_block ?_
 refine c_loop (τ := Nat) [(4, 4), (22, 22), (208, 224)] (fun x => (fun (j : Nat) => [(22, .int .i64 (j : Int))]) x) (fun x w' => (fun (j : Nat) => St w (fun _ => False) [.ow 3 1 ad190 ((toL O70 (6 : Int)).length) cp190 (iv (toL O70 (6 : Int))), .ow 3 1 ad186 ((toL O70 (5 : Int)).length) cp186 (iv (toL O70 (5 : Int))), .ow 42 5 oa70 O70.length oc70 (List.flatMap lo O70), co k kw nd inc cnt mb none [] 0 T70, .fz g70, .ow 3 1 ya Y2.length yc (iv Y2), .ow 3 1 ra R2.length rc (iv R2), wk kw kd wa70 wc70 rs70, dk kd da70 dc70 l70 0 l70.length, .blk b58 (.cells #[.int .i64 x57.nd, .int .i64 x57.k, .bool x57.p] 45), .blk b2 (.cells #[.slice na ns.length nc, .slice va vs.length vc, .int .i64 keep] 25), .ow 3 1 ad188 ((CM ++ (toL O70 (5 : Int))).length) cp188 (iv (CM ++ (toL O70 (5 : Int)))), .ow 3 1 ad192 ((AB ++ (toL O70 (6 : Int))).length) cp192 (iv (AB ++ (toL O70 (6 : Int))))] w' ∧ j ≤ Y2.length) x) (fun x => (fun (j : Nat) => Y2.length - j) x) (0) ?_ (by repeat' (first | exact trivial | refine ⟨by first | rfl | exact int_succ _ | assumption, ?_⟩)) (fun j j223 w223 hJ223 K223 hK223 => ?_)
 exact ⟨hS194, Nat.zero_le _⟩
 obtain ⟨hS223, hj⟩ := hJ223
 try dsimp only at hS223 hj ⊢
 refine wp_seq_k (fun K224 hK224 => ?_)
 refine wp_seq_k (fun K225 hK225 => ?_)
 refine wp_region_lit ?_
 refine l_q rfl rfl (q_moveI rfl) ?_
 refine l_q rfl rfl (q_moveS rfl) ?_
 refine l_q rfl rfl (q_lenSl (e := 3) rfl (by kernel_rfl)) ?_
 refine l_q rfl rfl (q_lss rfl rfl) ?_
 refine l_q rfl rfl (q_moveB rfl) ?_
 refine g_splitL (t := 212) rfl (fun hg226 => ?_) (fun hg226 => ?_)
 have hg226b := hg226
 try simp only [zbb] at hg226
 refine l_on rfl rfl hg226b ?_
 refine l_q rfl rfl (q_moveI rfl) ?_
 refine l_on rfl rfl hg226b ?_
 refine l_q rfl rfl (q_eql rfl rfl) ?_
 refine l_q rfl rfl (q_pickT rfl hg226b rfl) ?_
 refine l_nil ?_
 refine hK225 _ _ ?_
 refine c_cond rfl (fun hc227 => ?_) (fun hc227 => ?_)
 have hc227b := hc227
 try simp only [zbb] at hc227
 refine wp_skip ?_
 refine hK224 _ _ ?_
 refine wp_seq_k (fun K228 hK228 => ?_)
 refine wp_block ?_
 refine wp_seq_k (fun K229 hK229 => ?_)
 refine wp_region_lit ?_
 refine l_q rfl rfl (q_moveS rfl) ?_
 refine l_q rfl rfl (q_moveS rfl) ?_
 refine l_q rfl rfl (q_moveI rfl) ?_
 refine l_q rfl rfl (q_ixG (e := 3) (m := 1) (j := j) rfl rfl (by kernel_rfl) (by kernel_rfl) (by first | rfl | omega) (by omega) (hS223.owG (i := 5) rfl) (by rw [iv_len]; first | omega | (simp only [zll] <;> omega))) ?_
 obtain ⟨x230, hx230⟩ : ∃ x, (Y2)[j]? = some x := ⟨_, List.getElem?_eq_getElem (by first | omega | (simp only [zll] <;> omega) | (simp <;> omega))⟩
 refine l_q rfl rfl (q_load1 rfl (by kernel_rfl) (SlG.cell (hS223.owG (i := 5) rfl) (Gle.refl _) (at1 (iv_at hx230)))) ?_
 have hym := hC4 (by omega) x230 (List.mem_of_getElem? hx230)
 refine l_e rfl (fun K hK => ?_)
 refine e_call (by kernel_rfl) (has13_ok (CM ++ (toL O70 (5 : Int))) x230 ((CM ++ (toL O70 (5 : Int))).length) (by first | omega | (simp only [zll] <;> omega)) (by first | omega | (simp only [zll] <;> omega)) _ _ _ (hS223.owG (i := 11) rfl)) rfl (after_R hS223 (fun v231 w231 hv231 hS231 => ?_))
 clear hS223
 obtain rfl := hv231
 refine hK _ _ ?_; clear hK K
 refine l_q rfl rfl (q_not rfl) ?_
 refine l_nil ?_
 refine hK229 _ _ ?_
 refine c_cond rfl (fun hc232 => ?_) (fun hc232 => ?_)
 have hc232b := hc232
 try simp only [zbb] at hc232
 exact absurd hym hc232
 have hc232b := hc232
 try simp only [zbb] at hc232
 refine wp_skip ?_
 refine hK228 _ _ ?_
 refine wp_region_lit ?_
 refine l_q rfl rfl (q_moveI rfl) ?_
 refine l_q rfl rfl (q_addx rfl rfl (by first | decide | omega) (by first | decide | omega)) ?_
 refine l_q rfl rfl (q_assignI rfl) ?_
 refine l_nil ?_
 refine hK223 _ _ (came ((j + 1)) (by repeat' (first | exact Agree.refl _ _ | refine Agree.up ?_ rfl | refine Agree.hav2 ?_ rfl | refine Agree.ups2 ?_ rfl)) (by repeat' (first | exact trivial | refine ⟨by first | rfl | exact int_succ _ | assumption, ?_⟩)) ?_)
 exact ⟨⟨hS231, (by show j + 1 ≤ Y2.length; omega)⟩, by (show Y2.length - (j + 1) < Y2.length - j); omega⟩
 have hc227b := hc227
 try simp only [zbb] at hc227
 refine wp_exit ?_
 refine hK221 _ _ ?_
 refine wp_seq_k (fun K233 hK233 => ?_)
 refine wp_region_lit ?_
 refine l_q rfl rfl (q_fieldAddr (ft := 4) (o := 2) rfl (by kernel_rfl)) ?_
 refine l_q rfl rfl (q_load1 rfl (by kernel_rfl) (hS223.cell (i := 9) rfl rfl)) ?_
 refine l_nil ?_
 refine hK233 _ _ ?_
 refine c_cond rfl (fun hc234 => ?_) (fun hc234 => ?_)
 have hc234b := hc234
 try simp only [zbb] at hc234
 refine wp_seq_k (fun K235 hK235 => ?_)
 refine wp_region_lit ?_
 refine l_q rfl rfl (q_moveP rfl) ?_
 refine l_q rfl rfl (q_fieldAddr (ft := 3) (o := 2) rfl (by kernel_rfl)) ?_
 refine l_q rfl rfl (q_load1 rfl (by kernel_rfl) (hS223.cell (i := 10) rfl rfl)) ?_
 refine l_e rfl (fun K hK => ?_)
 have hS237 := hS223.fr8; clear hS223
 have hF236 := pwN_le (l := l70) (s := l70.length) keep (by first | omega | (simp only [zll] <;> omega))
 refine e_call (by kernel_rfl) (dPower_ok _ _ _ _ _ _ hGr70.1 (by first | omega | (simp only [zll] <;> omega)) (by first | omega | (simp only [zll] <;> omega)) _ (by first | omega | (simp only [zll] <;> omega)) _ (St.begin (Γ := [_]) hS237)) rfl (after_M (Γ1 := [_]) hS237 (fun v236 G236 w236 hv236 hS236 => ?_))
 clear hS237
 obtain ⟨k236, ad236, cp236, rfl, rfl⟩ := hv236
 have hS238 : St _ _ [dk k236 ad236 cp236 (l70.take (pwN l70 l70.length keep)) 0 (pwN l70 l70.length keep), _, _, _, _, _, .fz g70, _, _, _, _, _, _, _] _ := hS236; clear hS236
 refine hK _ _ ?_; clear hK K
 have hS239 : St _ _ [_, _, _, _, _, _, _, .fz g70, _, _, _, _, _, _] _ := hS238.front (k := 13) rfl rfl; clear hS238
 have hS240 : St _ _ [_, _, _, _, _, _, _, _, .fz g70, _, _, _, _, _] _ := hS239.front (k := 13) rfl rfl; clear hS239
 have hS241 : St _ _ [_, _, _, _, _, _, _, _, _, .fz g70, _, _, _, _] _ := hS240.front (k := 13) rfl rfl; clear hS240
 have hS242 : St _ _ [_, _, _, _, _, _, _, _, _, _, .fz g70, _, _, _] _ := hS241.front (k := 13) rfl rfl; clear hS241
 have hS243 : St _ _ [_, _, _, _, _, _, _, _, _, _, _, .fz g70, _, _] _ := hS242.front (k := 12) rfl rfl; clear hS242
 have hS244 : St _ _ [_, _, _, _, _, _, _, _, _, _, _, _, .fz g70, _] _ := hS243.front (k := 12) rfl rfl; clear hS243
 have hS245 : St _ _ [.fz g70, _, _, _, _, _, _, _, _, _, _, _, _, _] _ := hS244.front (k := 12) rfl rfl; clear hS244
 have hS246 : St _ _ [_, .fz g70, _, _, _, _, _, _, _, _, _, _, _, _] _ := hS245.front (k := 11) rfl rfl; clear hS245
 have hS247 : St _ _ [_, _, .fz g70, _, _, _, _, _, _, _, _, _, _, _] _ := hS246.front (k := 11) rfl rfl; clear hS246
 have hS248 : St _ _ [_, _, _, .fz g70, _, _, _, _, _, _, _, _, _, _] _ := hS247.front (k := 11) rfl rfl; clear hS247
 have hS249 : St _ _ [_, _, _, _, .fz g70, _, _, _, _, _, _, _, _, _] _ := hS248.front (k := 10) rfl rfl; clear hS248
 have hS250 : St _ _ [_, _, _, _, .fz g70, _, _, _, _, _, _] _ := hS249.only 11; clear hS249
 have hpa236 := pw_all l70 keep
 have hS251 : St _ _ [dk k236 ad236 cp236 l70 0 l70.length, _, _, _, .fz g70, _, _, _, _, _, _] _ := hS250.cast (by rw [hpa236.2, hpa236.1] <;> rfl); clear hS250
 refine l_q rfl rfl (q_assignP rfl) ?_
 refine l_nil ?_
 refine hK235 _ _ ?_
 refine wp_seq_k (fun K252 hK252 => ?_)
 have hsc253 := DiskIs.scan hd2
 have hrn253 : (scan l70 0).1.length ≤ 450000 := by have := (scan_len l70.length l70 0 (Nat.le_refl _)).1; omega
 have hri253 : (replayR (scan l70 0).1 (0, [])).1 ≤ 65536 := by rw [hsc253.2]; show (inc + 1) ≤ 65536; omega
 obtain ⟨hIp, hp2, hp0, hpd⟩ := hI2.power
 rw [hE178] at hp2 hp0
 refine wp_region_lit ?_
 refine l_q rfl rfl (q_moveP rfl) ?_
 refine l_q rfl rfl (q_moveI rfl) ?_
 refine l_e rfl (fun K hK => ?_)
 have hS255 := hS251.fr4; clear hS251
 have hS256 := hS255.fr1; clear hS255
 refine e_call (by kernel_rfl) (open_ok nd hnd _ _ _ l70 0 l70.length hGr70.1 (by first | omega | (simp only [zll] <;> omega)) (by first | omega | (simp only [zll] <;> omega)) _ (by first | omega | (simp only [zll] <;> omega)) hrn253 hri253 _ (St.begin (Γ := [_, _]) hS256)) rfl (after_M (Γ1 := [_, _]) hS256 (fun v254 G254 w254 hv254 hS254 => ?_))
 clear hS256
 obtain ⟨k254, kw254, mb254, wa254, wc254, inc254, T254, rs254, da254, dc254, g254, rfl, rfl, hle254, hT254, hst254, hrs254, hrl254⟩ := hv254
 have hS257 : St _ _ [co k254 kw254 nd inc254 0 mb254 none [] 0 T254, wk kw254 k236 wa254 wc254 rs254, dk k236 da254 dc254 (recL (l70.take (scan l70 0).2) [0, (inc254 : Int)]) 0 ((recL (l70.take (scan l70 0).2) [0, (inc254 : Int)]).length), .fz g254, _, _, _, _, _, _, _, _, _] _ := hS254; clear hS254
 refine hK _ _ ?_; clear hK K
 rw [hsc253.2] at hst254
 have hi254 : inc254 = (inc + 1) := congrArg Prod.fst hst254
 have eT254 : absT T254 = (dT nd (absT T70)) := congrArg Prod.snd hst254
 subst hi254
 rw [← eT254] at hIp hp2 hp0 hpd
 have htk254 : l70.take (scan l70 0).2 = l70 := by rw [hsc253.1, List.take_length]
 obtain ⟨l254, hle254l⟩ : ∃ z, z = recL l70 [0, (((inc + 1) : Nat) : Int)] := ⟨_, rfl⟩
 have hdk254 : DiskIs l254 ((inc + 1) + 1, dT nd (absT T254)) := by rw [hle254l, hpd, eT254]; exact DiskIs.again hd2 (by omega) (by omega)
 have hBl254 := hdk254.1
 have hgw254 : l254.length ≤ l70.length + 3382 := by rw [hle254l]; exact again_len hd2 (by omega) 0
 have hS258 : St _ _ [co k254 kw254 nd (inc + 1) 0 mb254 none [] 0 T254, _, dk k236 da254 dc254 l254 0 l254.length, .fz g254, _, _, _, _, _, _, _, _, _] _ := hS257.cast (by rw [hle254l, htk254] <;> rfl); clear hS257
 refine l_q rfl rfl (q_move rfl) ?_
 refine l_q rfl rfl (q_extract rfl rfl) ?_
 refine l_q rfl rfl (q_extract rfl rfl) ?_
 refine l_q rfl rfl (q_assignP rfl) ?_
 refine l_q rfl rfl (q_assignI rfl) ?_
 refine l_nil ?_
 refine hK252 _ _ ?_
 refine wp_seq_k (fun K259 hK259 => ?_)
 refine wp_region_lit ?_
 refine l_q rfl rfl (q_moveI rfl) ?_
 refine l_q rfl rfl (q_neq rfl rfl) ?_
 refine l_q rfl rfl (q_moveB rfl) ?_
 refine l_on rfl rfl (by decide) ?_
 refine l_q rfl rfl (q_moveP rfl) ?_
 refine l_on rfl rfl (by decide) ?_
 refine l_q rfl rfl (q_peq rfl (by kernel_rfl)) ?_
 refine l_q rfl rfl (q_pickF rfl (by decide) rfl) ?_
 refine l_q rfl rfl (q_moveB rfl) ?_
 refine l_on rfl rfl rfl ?_
 refine l_q rfl rfl (q_moveP rfl) ?_
 refine l_on rfl rfl rfl ?_
 refine l_q rfl rfl (q_moveI rfl) ?_
 refine l_on rfl rfl rfl ?_
 refine l_e rfl (fun K hK => ?_)
 have hS261 := hS258.fr3; clear hS258
 have hS262 := hS261.fr1; clear hS261
 refine e_call (by kernel_rfl) (state_any k254 kw254 nd (inc + 1) 0 mb254 none [] 0 T254 hT254 g254 LOk.nil (by first | omega | (simp only [zll] <;> omega)) nd _ (St.begin (Γ := [_, _]) hS262)) rfl (after_M (Γ1 := [_, _]) hS262 (fun v260 G260 w260 hv260 hS260 => ?_))
 clear hS262
 obtain ⟨a260, rfl, rfl, hE260⟩ := hv260
 have hS263 : St _ _ [_, .fz g254, _, _, _, _, _, _, _, _, _, _, _] _ := hS260; clear hS260
 refine hK _ _ ?_; clear hK K
 rw [hE260] at hp2 hp0
 have hp3 : (a178 = 2 ∧ a260 = 2) ∨ (¬a178 = 2 ∧ a260 = 0) := by by_cases h : a178 = 2; exact .inl ⟨h, hp2 h⟩; exact .inr ⟨h, hp0 h⟩
 refine l_on rfl rfl rfl ?_
 refine l_q rfl rfl (q_eql rfl rfl) ?_
 refine l_on rfl rfl rfl ?_
 refine l_q rfl rfl (q_moveI rfl) ?_
 refine l_on rfl rfl rfl ?_
 refine l_q rfl rfl (q_eql rfl rfl) ?_
 refine l_on rfl rfl rfl ?_
 refine l_q rfl rfl (q_bc (b := false) (by first | exact neq_tt (by omega) | exact neq_ff (by omega) | exact neq_dd (by omega)) (q_bool_neq rfl rfl (by kernel_rfl))) ?_
 refine l_q rfl rfl (q_pickF rfl rfl rfl) ?_
 refine l_q rfl rfl (q_moveB rfl) ?_
 refine l_on rfl rfl rfl ?_
 refine l_q rfl rfl (q_moveI rfl) ?_
 refine l_on rfl rfl rfl ?_
 refine l_q rfl rfl (q_neq rfl rfl) ?_
 refine l_on rfl rfl rfl ?_
 refine l_q rfl rfl (q_moveB rfl) ?_
 refine g_splitL (t := 255) rfl (fun hg264 => ?_) (fun hg264 => ?_)
 have hg264b := hg264
 try simp only [zbb] at hg264
 refine l_on rfl rfl hg264b ?_
 refine l_q rfl rfl (q_moveP rfl) ?_
 refine l_on rfl rfl hg264b ?_
 refine l_q rfl rfl (q_moveI rfl) ?_
 refine l_on rfl rfl hg264b ?_
 refine l_e rfl (fun K hK => ?_)
 refine e_call (by kernel_rfl) (state_any k254 kw254 nd (inc + 1) 0 mb254 none [] 0 T254 hT254 g254 LOk.nil (by first | omega | (simp only [zll] <;> omega)) nd _ (St.begin (Γ := [_, _]) hS263)) rfl (after_M (Γ1 := [_, _]) hS263 (fun v265 G265 w265 hv265 hS265 => ?_))
 clear hS263
 obtain ⟨a265, rfl, rfl, hE265⟩ := hv265
 have hS266 : St _ _ [_, .fz g254, _, _, _, _, _, _, _, _, _, _, _] _ := hS265; clear hS265
 refine hK _ _ ?_; clear hK K
 have ha265 : a265 = a260 := hE265.symm.trans hE260
 subst ha265
 refine l_on rfl rfl hg264b ?_
 refine l_q rfl rfl (q_neq rfl rfl) ?_
 refine l_on rfl rfl rfl ?_
 refine l_q rfl rfl (q_pickT rfl hg264b rfl) ?_
 refine l_q rfl rfl (q_pickF rfl rfl rfl) ?_
 refine l_nil ?_
 refine hK259 _ _ ?_
 refine c_cond rfl (fun hc267 => ?_) (fun hc267 => ?_)
 have hc267b := hc267
 try simp only [zbb] at hc267
 exfalso; first | omega | exact hc267 trivial | exact absurd hc267 (by decide)
 have hc267b := hc267
 try simp only [zbb] at hc267
 refine wp_skip ?_
 refine hK55 _ _ ?_
 refine wp_region_lit ?_
 refine l_q rfl rfl (q_moveI rfl) ?_
 refine l_q rfl rfl (q_addx rfl rfl (by first | decide | omega) (by first | decide | omega)) ?_
 refine l_q rfl rfl (q_assignI rfl) ?_
 refine l_nil ?_
 have hS268 : St _ _ [_, _, .fz g254, _, _, _, _, _, _, _, _, _, _] _ := hS266.front (k := 12) rfl rfl; clear hS266
 have hS269 : St _ _ [_, _, _, .fz g254, _, _, _, _, _, _, _, _, _] _ := hS268.front (k := 12) rfl rfl; clear hS268
 have hS270 : St _ _ [_, _, _, _, .fz g254, _, _, _, _, _, _, _, _] _ := hS269.front (k := 10) rfl rfl; clear hS269
 have hS271 : St _ _ [_, _, _, _, _, .fz g254, _, _, _, _, _, _, _] _ := hS270.front (k := 10) rfl rfl; clear hS270
 have hS272 : St _ _ [_, _, _, _, _, _, .fz g254, _, _, _, _, _, _] _ := hS271.front (k := 12) rfl rfl; clear hS271
 have hS273 := hS272.fr6; clear hS272
 have hS274 := hS273.fr8; clear hS273
 have hS275 := hS274.fr8; clear hS274
 have hS276 := hS275.fr8; clear hS275
 have hS277 : St _ _ [_, _, _, .fz g254, _, _, _, _, _] _ := hS276.only 9; clear hS276
 refine hK50 _ _ (came (⟨(i + 1), k254, kw254, mb254, (inc + 1), 0, T254, k236, wa254, wc254, rs254, da254, dc254, l254, g254, N2, Y2, ya, yc, R2, ra, rc, (CM ++ (toL O70 (5 : Int))), ad188, cp188, (AB ++ (toL O70 (6 : Int))), ad192, cp192⟩) (by repeat' (first | exact Agree.refl _ _ | refine Agree.up ?_ rfl | refine Agree.hav2 ?_ rfl | refine Agree.ups2 ?_ rfl)) (by repeat' (first | exact trivial | refine ⟨by first | rfl | exact int_succ _ | assumption, ?_⟩)) ?_)
 exact ⟨⟨hS277, (by show i + 1 ≤ vs.length; omega), (by show i + 1 ≤ 60; omega), (by show inc + 1 ≤ i + 1; omega), (by show 0 ≤ 1; omega), hT254, hdk254, (by first | omega | (dsimp only; omega)), hrs254, (by first | omega | (dsimp only; omega)), hIp, (by first | omega | (dsimp only; omega)), (by first | omega | (dsimp only; omega))⟩, by (show vs.length - (i + 1) < vs.length - i); omega⟩
 have hg264b := hg264
 try simp only [zbb] at hg264
 refine l_off rfl rfl rfl hg264b ?_
 refine l_off rfl rfl rfl hg264b ?_
 refine l_off rfl rfl rfl hg264b ?_
 refine l_off rfl rfl rfl hg264b ?_
 refine l_on rfl rfl rfl ?_
 refine l_q rfl rfl (q_pickF rfl hg264b rfl) ?_
 refine l_q rfl rfl (q_pickF rfl rfl rfl) ?_
 refine l_nil ?_
 refine hK259 _ _ ?_
 refine c_condF rfl rfl ?_
 refine wp_skip ?_
 refine hK55 _ _ ?_
 refine wp_region_lit ?_
 refine l_q rfl rfl (q_moveI rfl) ?_
 refine l_q rfl rfl (q_addx rfl rfl (by first | decide | omega) (by first | decide | omega)) ?_
 refine l_q rfl rfl (q_assignI rfl) ?_
 refine l_nil ?_
 have hS279 : St _ _ [_, _, .fz g254, _, _, _, _, _, _, _, _, _, _] _ := hS263.front (k := 12) rfl rfl; clear hS263
 have hS280 : St _ _ [_, _, _, .fz g254, _, _, _, _, _, _, _, _, _] _ := hS279.front (k := 12) rfl rfl; clear hS279
 have hS281 : St _ _ [_, _, _, _, .fz g254, _, _, _, _, _, _, _, _] _ := hS280.front (k := 10) rfl rfl; clear hS280
 have hS282 : St _ _ [_, _, _, _, _, .fz g254, _, _, _, _, _, _, _] _ := hS281.front (k := 10) rfl rfl; clear hS281
 have hS283 : St _ _ [_, _, _, _, _, _, .fz g254, _, _, _, _, _, _] _ := hS282.front (k := 12) rfl rfl; clear hS282
 have hS284 := hS283.fr6; clear hS283
 have hS285 := hS284.fr8; clear hS284
 have hS286 := hS285.fr8; clear hS285
 have hS287 := hS286.fr8; clear hS286
 have hS288 : St _ _ [_, _, _, .fz g254, _, _, _, _, _] _ := hS287.only 9; clear hS287
 refine hK50 _ _ (came (⟨(i + 1), k254, kw254, mb254, (inc + 1), 0, T254, k236, wa254, wc254, rs254, da254, dc254, l254, g254, N2, Y2, ya, yc, R2, ra, rc, (CM ++ (toL O70 (5 : Int))), ad188, cp188, (AB ++ (toL O70 (6 : Int))), ad192, cp192⟩) (by repeat' (first | exact Agree.refl _ _ | refine Agree.up ?_ rfl | refine Agree.hav2 ?_ rfl | refine Agree.ups2 ?_ rfl)) (by repeat' (first | exact trivial | refine ⟨by first | rfl | exact int_succ _ | assumption, ?_⟩)) ?_)
 exact ⟨⟨hS288, (by show i + 1 ≤ vs.length; omega), (by show i + 1 ≤ 60; omega), (by show inc + 1 ≤ i + 1; omega), (by show 0 ≤ 1; omega), hT254, hdk254, (by first | omega | (dsimp only; omega)), hrs254, (by first | omega | (dsimp only; omega)), hIp, (by first | omega | (dsimp only; omega)), (by first | omega | (dsimp only; omega))⟩, by (show vs.length - (i + 1) < vs.length - i); omega⟩
 have hc234b := hc234
 try simp only [zbb] at hc234
 refine wp_skip ?_
 refine hK55 _ _ ?_
 refine wp_region_lit ?_
 refine l_q rfl rfl (q_moveI rfl) ?_
 refine l_q rfl rfl (q_addx rfl rfl (by first | decide | omega) (by first | decide | omega)) ?_
 refine l_q rfl rfl (q_assignI rfl) ?_
 refine l_nil ?_
 have hS289 : St _ _ [_, _, _, _, _, .fz g70, _, _, _, _, _, _, _] _ := hS223.front (k := 12) rfl rfl; clear hS223
 have hS290 : St _ _ [_, _, _, _, _, _, .fz g70, _, _, _, _, _, _] _ := hS289.front (k := 12) rfl rfl; clear hS289
 have hS291 := hS290.fr8; clear hS290
 have hS292 := hS291.fr8; clear hS291
 have hS293 : St _ _ [_, _, _, _, _, _, _, _, _, .fz g70, _, _, _] _ := hS292.front (k := 12) rfl rfl; clear hS292
 have hS294 := hS293.fr9; clear hS293
 have hS295 : St _ _ [_, .fz g70, _, _, _, _, _, _, _, _, _, _, _] _ := hS294.front (k := 11) rfl rfl; clear hS294
 have hS296 : St _ _ [_, _, .fz g70, _, _, _, _, _, _, _, _, _, _] _ := hS295.front (k := 11) rfl rfl; clear hS295
 have hS297 : St _ _ [_, _, _, .fz g70, _, _, _, _, _, _, _, _, _] _ := hS296.front (k := 11) rfl rfl; clear hS296
 have hS298 : St _ _ [_, _, _, .fz g70, _, _, _, _, _] _ := hS297.only 9; clear hS297
 refine hK50 _ _ (came (⟨(i + 1), k, kw, mb, inc, cnt, T70, kd, wa70, wc70, rs70, da70, dc70, l70, g70, N2, Y2, ya, yc, R2, ra, rc, (CM ++ (toL O70 (5 : Int))), ad188, cp188, (AB ++ (toL O70 (6 : Int))), ad192, cp192⟩) (by repeat' (first | exact Agree.refl _ _ | refine Agree.up ?_ rfl | refine Agree.hav2 ?_ rfl | refine Agree.ups2 ?_ rfl)) (by repeat' (first | exact trivial | refine ⟨by first | rfl | exact int_succ _ | assumption, ?_⟩)) ?_)
 exact ⟨⟨hS298, (by show i + 1 ≤ vs.length; omega), (by show i + 1 ≤ 60; omega), (by show inc ≤ i + 1; omega), hcn, hT70, hd2, (by first | omega | (dsimp only; omega)), hrs70, (by first | omega | (dsimp only; omega)), hI2, (by first | omega | (dsimp only; omega)), (by first | omega | (dsimp only; omega))⟩, by (show vs.length - (i + 1) < vs.length - i); omega⟩
 have hg226b := hg226
 try simp only [zbb] at hg226
 refine l_off rfl rfl rfl hg226b ?_
 refine l_off rfl rfl rfl hg226b ?_
 refine l_q rfl rfl (q_pickF rfl hg226b rfl) ?_
 refine l_nil ?_
 refine hK225 _ _ ?_
 refine c_condF rfl rfl ?_
 refine wp_exit ?_
 refine hK221 _ _ ?_
 refine wp_seq_k (fun K300 hK300 => ?_)
 refine wp_region_lit ?_
 refine l_q rfl rfl (q_fieldAddr (ft := 4) (o := 2) rfl (by kernel_rfl)) ?_
 refine l_q rfl rfl (q_load1 rfl (by kernel_rfl) (hS223.cell (i := 9) rfl rfl)) ?_
 refine l_nil ?_
 refine hK300 _ _ ?_
 refine c_cond rfl (fun hc301 => ?_) (fun hc301 => ?_)
 have hc301b := hc301
 try simp only [zbb] at hc301
 refine wp_seq_k (fun K302 hK302 => ?_)
 refine wp_region_lit ?_
 refine l_q rfl rfl (q_moveP rfl) ?_
 refine l_q rfl rfl (q_fieldAddr (ft := 3) (o := 2) rfl (by kernel_rfl)) ?_
 refine l_q rfl rfl (q_load1 rfl (by kernel_rfl) (hS223.cell (i := 10) rfl rfl)) ?_
 refine l_e rfl (fun K hK => ?_)
 have hS304 := hS223.fr8; clear hS223
 have hF303 := pwN_le (l := l70) (s := l70.length) keep (by first | omega | (simp only [zll] <;> omega))
 refine e_call (by kernel_rfl) (dPower_ok _ _ _ _ _ _ hGr70.1 (by first | omega | (simp only [zll] <;> omega)) (by first | omega | (simp only [zll] <;> omega)) _ (by first | omega | (simp only [zll] <;> omega)) _ (St.begin (Γ := [_]) hS304)) rfl (after_M (Γ1 := [_]) hS304 (fun v303 G303 w303 hv303 hS303 => ?_))
 clear hS304
 obtain ⟨k303, ad303, cp303, rfl, rfl⟩ := hv303
 have hS305 : St _ _ [dk k303 ad303 cp303 (l70.take (pwN l70 l70.length keep)) 0 (pwN l70 l70.length keep), _, _, _, _, _, .fz g70, _, _, _, _, _, _, _] _ := hS303; clear hS303
 refine hK _ _ ?_; clear hK K
 have hS306 : St _ _ [_, _, _, _, _, _, _, .fz g70, _, _, _, _, _, _] _ := hS305.front (k := 13) rfl rfl; clear hS305
 have hS307 : St _ _ [_, _, _, _, _, _, _, _, .fz g70, _, _, _, _, _] _ := hS306.front (k := 13) rfl rfl; clear hS306
 have hS308 : St _ _ [_, _, _, _, _, _, _, _, _, .fz g70, _, _, _, _] _ := hS307.front (k := 13) rfl rfl; clear hS307
 have hS309 : St _ _ [_, _, _, _, _, _, _, _, _, _, .fz g70, _, _, _] _ := hS308.front (k := 13) rfl rfl; clear hS308
 have hS310 : St _ _ [_, _, _, _, _, _, _, _, _, _, _, .fz g70, _, _] _ := hS309.front (k := 12) rfl rfl; clear hS309
 have hS311 : St _ _ [_, _, _, _, _, _, _, _, _, _, _, _, .fz g70, _] _ := hS310.front (k := 12) rfl rfl; clear hS310
 have hS312 : St _ _ [.fz g70, _, _, _, _, _, _, _, _, _, _, _, _, _] _ := hS311.front (k := 12) rfl rfl; clear hS311
 have hS313 : St _ _ [_, .fz g70, _, _, _, _, _, _, _, _, _, _, _, _] _ := hS312.front (k := 11) rfl rfl; clear hS312
 have hS314 : St _ _ [_, _, .fz g70, _, _, _, _, _, _, _, _, _, _, _] _ := hS313.front (k := 11) rfl rfl; clear hS313
 have hS315 : St _ _ [_, _, _, .fz g70, _, _, _, _, _, _, _, _, _, _] _ := hS314.front (k := 11) rfl rfl; clear hS314
 have hS316 : St _ _ [_, _, _, _, .fz g70, _, _, _, _, _, _, _, _, _] _ := hS315.front (k := 10) rfl rfl; clear hS315
 have hS317 : St _ _ [_, _, _, _, .fz g70, _, _, _, _, _, _] _ := hS316.only 11; clear hS316
 have hpa303 := pw_all l70 keep
 have hS318 : St _ _ [dk k303 ad303 cp303 l70 0 l70.length, _, _, _, .fz g70, _, _, _, _, _, _] _ := hS317.cast (by rw [hpa303.2, hpa303.1] <;> rfl); clear hS317
 refine l_q rfl rfl (q_assignP rfl) ?_
 refine l_nil ?_
 refine hK302 _ _ ?_
 refine wp_seq_k (fun K319 hK319 => ?_)
 have hsc320 := DiskIs.scan hd2
 have hrn320 : (scan l70 0).1.length ≤ 450000 := by have := (scan_len l70.length l70 0 (Nat.le_refl _)).1; omega
 have hri320 : (replayR (scan l70 0).1 (0, [])).1 ≤ 65536 := by rw [hsc320.2]; show (inc + 1) ≤ 65536; omega
 obtain ⟨hIp, hp2, hp0, hpd⟩ := hI2.power
 rw [hE178] at hp2 hp0
 refine wp_region_lit ?_
 refine l_q rfl rfl (q_moveP rfl) ?_
 refine l_q rfl rfl (q_moveI rfl) ?_
 refine l_e rfl (fun K hK => ?_)
 have hS322 := hS318.fr4; clear hS318
 have hS323 := hS322.fr1; clear hS322
 refine e_call (by kernel_rfl) (open_ok nd hnd _ _ _ l70 0 l70.length hGr70.1 (by first | omega | (simp only [zll] <;> omega)) (by first | omega | (simp only [zll] <;> omega)) _ (by first | omega | (simp only [zll] <;> omega)) hrn320 hri320 _ (St.begin (Γ := [_, _]) hS323)) rfl (after_M (Γ1 := [_, _]) hS323 (fun v321 G321 w321 hv321 hS321 => ?_))
 clear hS323
 obtain ⟨k321, kw321, mb321, wa321, wc321, inc321, T321, rs321, da321, dc321, g321, rfl, rfl, hle321, hT321, hst321, hrs321, hrl321⟩ := hv321
 have hS324 : St _ _ [co k321 kw321 nd inc321 0 mb321 none [] 0 T321, wk kw321 k303 wa321 wc321 rs321, dk k303 da321 dc321 (recL (l70.take (scan l70 0).2) [0, (inc321 : Int)]) 0 ((recL (l70.take (scan l70 0).2) [0, (inc321 : Int)]).length), .fz g321, _, _, _, _, _, _, _, _, _] _ := hS321; clear hS321
 refine hK _ _ ?_; clear hK K
 rw [hsc320.2] at hst321
 have hi321 : inc321 = (inc + 1) := congrArg Prod.fst hst321
 have eT321 : absT T321 = (dT nd (absT T70)) := congrArg Prod.snd hst321
 subst hi321
 rw [← eT321] at hIp hp2 hp0 hpd
 have htk321 : l70.take (scan l70 0).2 = l70 := by rw [hsc320.1, List.take_length]
 obtain ⟨l321, hle321l⟩ : ∃ z, z = recL l70 [0, (((inc + 1) : Nat) : Int)] := ⟨_, rfl⟩
 have hdk321 : DiskIs l321 ((inc + 1) + 1, dT nd (absT T321)) := by rw [hle321l, hpd, eT321]; exact DiskIs.again hd2 (by omega) (by omega)
 have hBl321 := hdk321.1
 have hgw321 : l321.length ≤ l70.length + 3382 := by rw [hle321l]; exact again_len hd2 (by omega) 0
 have hS325 : St _ _ [co k321 kw321 nd (inc + 1) 0 mb321 none [] 0 T321, _, dk k303 da321 dc321 l321 0 l321.length, .fz g321, _, _, _, _, _, _, _, _, _] _ := hS324.cast (by rw [hle321l, htk321] <;> rfl); clear hS324
 refine l_q rfl rfl (q_move rfl) ?_
 refine l_q rfl rfl (q_extract rfl rfl) ?_
 refine l_q rfl rfl (q_extract rfl rfl) ?_
 refine l_q rfl rfl (q_assignP rfl) ?_
 refine l_q rfl rfl (q_assignI rfl) ?_
 refine l_nil ?_
 refine hK319 _ _ ?_
 refine wp_seq_k (fun K326 hK326 => ?_)
 refine wp_region_lit ?_
 refine l_q rfl rfl (q_moveI rfl) ?_
 refine l_q rfl rfl (q_neq rfl rfl) ?_
 refine l_q rfl rfl (q_moveB rfl) ?_
 refine l_on rfl rfl (by decide) ?_
 refine l_q rfl rfl (q_moveP rfl) ?_
 refine l_on rfl rfl (by decide) ?_
 refine l_q rfl rfl (q_peq rfl (by kernel_rfl)) ?_
 refine l_q rfl rfl (q_pickF rfl (by decide) rfl) ?_
 refine l_q rfl rfl (q_moveB rfl) ?_
 refine l_on rfl rfl rfl ?_
 refine l_q rfl rfl (q_moveP rfl) ?_
 refine l_on rfl rfl rfl ?_
 refine l_q rfl rfl (q_moveI rfl) ?_
 refine l_on rfl rfl rfl ?_
 refine l_e rfl (fun K hK => ?_)
 have hS328 := hS325.fr3; clear hS325
 have hS329 := hS328.fr1; clear hS328
 refine e_call (by kernel_rfl) (state_any k321 kw321 nd (inc + 1) 0 mb321 none [] 0 T321 hT321 g321 LOk.nil (by first | omega | (simp only [zll] <;> omega)) nd _ (St.begin (Γ := [_, _]) hS329)) rfl (after_M (Γ1 := [_, _]) hS329 (fun v327 G327 w327 hv327 hS327 => ?_))
 clear hS329
 obtain ⟨a327, rfl, rfl, hE327⟩ := hv327
 have hS330 : St _ _ [_, .fz g321, _, _, _, _, _, _, _, _, _, _, _] _ := hS327; clear hS327
 refine hK _ _ ?_; clear hK K
 rw [hE327] at hp2 hp0
 have hp3 : (a178 = 2 ∧ a327 = 2) ∨ (¬a178 = 2 ∧ a327 = 0) := by by_cases h : a178 = 2; exact .inl ⟨h, hp2 h⟩; exact .inr ⟨h, hp0 h⟩
 refine l_on rfl rfl rfl ?_
 refine l_q rfl rfl (q_eql rfl rfl) ?_
 refine l_on rfl rfl rfl ?_
 refine l_q rfl rfl (q_moveI rfl) ?_
 refine l_on rfl rfl rfl ?_
 refine l_q rfl rfl (q_eql rfl rfl) ?_
 refine l_on rfl rfl rfl ?_
 refine l_q rfl rfl (q_bc (b := false) (by first | exact neq_tt (by omega) | exact neq_ff (by omega) | exact neq_dd (by omega)) (q_bool_neq rfl rfl (by kernel_rfl))) ?_
 refine l_q rfl rfl (q_pickF rfl rfl rfl) ?_
 refine l_q rfl rfl (q_moveB rfl) ?_
 refine l_on rfl rfl rfl ?_
 refine l_q rfl rfl (q_moveI rfl) ?_
 refine l_on rfl rfl rfl ?_
 refine l_q rfl rfl (q_neq rfl rfl) ?_
 refine l_on rfl rfl rfl ?_
 refine l_q rfl rfl (q_moveB rfl) ?_
 refine g_splitL (t := 255) rfl (fun hg331 => ?_) (fun hg331 => ?_)
 have hg331b := hg331
 try simp only [zbb] at hg331
 refine l_on rfl rfl hg331b ?_
 refine l_q rfl rfl (q_moveP rfl) ?_
 refine l_on rfl rfl hg331b ?_
 refine l_q rfl rfl (q_moveI rfl) ?_
 refine l_on rfl rfl hg331b ?_
 refine l_e rfl (fun K hK => ?_)
 refine e_call (by kernel_rfl) (state_any k321 kw321 nd (inc + 1) 0 mb321 none [] 0 T321 hT321 g321 LOk.nil (by first | omega | (simp only [zll] <;> omega)) nd _ (St.begin (Γ := [_, _]) hS330)) rfl (after_M (Γ1 := [_, _]) hS330 (fun v332 G332 w332 hv332 hS332 => ?_))
 clear hS330
 obtain ⟨a332, rfl, rfl, hE332⟩ := hv332
 have hS333 : St _ _ [_, .fz g321, _, _, _, _, _, _, _, _, _, _, _] _ := hS332; clear hS332
 refine hK _ _ ?_; clear hK K
 have ha332 : a332 = a327 := hE332.symm.trans hE327
 subst ha332
 refine l_on rfl rfl hg331b ?_
 refine l_q rfl rfl (q_neq rfl rfl) ?_
 refine l_on rfl rfl rfl ?_
 refine l_q rfl rfl (q_pickT rfl hg331b rfl) ?_
 refine l_q rfl rfl (q_pickF rfl rfl rfl) ?_
 refine l_nil ?_
 refine hK326 _ _ ?_
 refine c_cond rfl (fun hc334 => ?_) (fun hc334 => ?_)
 have hc334b := hc334
 try simp only [zbb] at hc334
 exfalso; first | omega | exact hc334 trivial | exact absurd hc334 (by decide)
 have hc334b := hc334
 try simp only [zbb] at hc334
 refine wp_skip ?_
 refine hK55 _ _ ?_
 refine wp_region_lit ?_
 refine l_q rfl rfl (q_moveI rfl) ?_
 refine l_q rfl rfl (q_addx rfl rfl (by first | decide | omega) (by first | decide | omega)) ?_
 refine l_q rfl rfl (q_assignI rfl) ?_
 refine l_nil ?_
 have hS335 : St _ _ [_, _, .fz g321, _, _, _, _, _, _, _, _, _, _] _ := hS333.front (k := 12) rfl rfl; clear hS333
 have hS336 : St _ _ [_, _, _, .fz g321, _, _, _, _, _, _, _, _, _] _ := hS335.front (k := 12) rfl rfl; clear hS335
 have hS337 : St _ _ [_, _, _, _, .fz g321, _, _, _, _, _, _, _, _] _ := hS336.front (k := 10) rfl rfl; clear hS336
 have hS338 : St _ _ [_, _, _, _, _, .fz g321, _, _, _, _, _, _, _] _ := hS337.front (k := 10) rfl rfl; clear hS337
 have hS339 : St _ _ [_, _, _, _, _, _, .fz g321, _, _, _, _, _, _] _ := hS338.front (k := 12) rfl rfl; clear hS338
 have hS340 := hS339.fr6; clear hS339
 have hS341 := hS340.fr8; clear hS340
 have hS342 := hS341.fr8; clear hS341
 have hS343 := hS342.fr8; clear hS342
 have hS344 : St _ _ [_, _, _, .fz g321, _, _, _, _, _] _ := hS343.only 9; clear hS343
 refine hK50 _ _ (came (⟨(i + 1), k321, kw321, mb321, (inc + 1), 0, T321, k303, wa321, wc321, rs321, da321, dc321, l321, g321, N2, Y2, ya, yc, R2, ra, rc, (CM ++ (toL O70 (5 : Int))), ad188, cp188, (AB ++ (toL O70 (6 : Int))), ad192, cp192⟩) (by repeat' (first | exact Agree.refl _ _ | refine Agree.up ?_ rfl | refine Agree.hav2 ?_ rfl | refine Agree.ups2 ?_ rfl)) (by repeat' (first | exact trivial | refine ⟨by first | rfl | exact int_succ _ | assumption, ?_⟩)) ?_)
 exact ⟨⟨hS344, (by show i + 1 ≤ vs.length; omega), (by show i + 1 ≤ 60; omega), (by show inc + 1 ≤ i + 1; omega), (by show 0 ≤ 1; omega), hT321, hdk321, (by first | omega | (dsimp only; omega)), hrs321, (by first | omega | (dsimp only; omega)), hIp, (by first | omega | (dsimp only; omega)), (by first | omega | (dsimp only; omega))⟩, by (show vs.length - (i + 1) < vs.length - i); omega⟩
 have hg331b := hg331
 try simp only [zbb] at hg331
 refine l_off rfl rfl rfl hg331b ?_
 refine l_off rfl rfl rfl hg331b ?_
 refine l_off rfl rfl rfl hg331b ?_
 refine l_off rfl rfl rfl hg331b ?_
 refine l_on rfl rfl rfl ?_
 refine l_q rfl rfl (q_pickF rfl hg331b rfl) ?_
 refine l_q rfl rfl (q_pickF rfl rfl rfl) ?_
 refine l_nil ?_
 refine hK326 _ _ ?_
 refine c_condF rfl rfl ?_
 refine wp_skip ?_
 refine hK55 _ _ ?_
 refine wp_region_lit ?_
 refine l_q rfl rfl (q_moveI rfl) ?_
 refine l_q rfl rfl (q_addx rfl rfl (by first | decide | omega) (by first | decide | omega)) ?_
 refine l_q rfl rfl (q_assignI rfl) ?_
 refine l_nil ?_
 have hS346 : St _ _ [_, _, .fz g321, _, _, _, _, _, _, _, _, _, _] _ := hS330.front (k := 12) rfl rfl; clear hS330
 have hS347 : St _ _ [_, _, _, .fz g321, _, _, _, _, _, _, _, _, _] _ := hS346.front (k := 12) rfl rfl; clear hS346
 have hS348 : St _ _ [_, _, _, _, .fz g321, _, _, _, _, _, _, _, _] _ := hS347.front (k := 10) rfl rfl; clear hS347
 have hS349 : St _ _ [_, _, _, _, _, .fz g321, _, _, _, _, _, _, _] _ := hS348.front (k := 10) rfl rfl; clear hS348
 have hS350 : St _ _ [_, _, _, _, _, _, .fz g321, _, _, _, _, _, _] _ := hS349.front (k := 12) rfl rfl; clear hS349
 have hS351 := hS350.fr6; clear hS350
 have hS352 := hS351.fr8; clear hS351
 have hS353 := hS352.fr8; clear hS352
 have hS354 := hS353.fr8; clear hS353
 have hS355 : St _ _ [_, _, _, .fz g321, _, _, _, _, _] _ := hS354.only 9; clear hS354
 refine hK50 _ _ (came (⟨(i + 1), k321, kw321, mb321, (inc + 1), 0, T321, k303, wa321, wc321, rs321, da321, dc321, l321, g321, N2, Y2, ya, yc, R2, ra, rc, (CM ++ (toL O70 (5 : Int))), ad188, cp188, (AB ++ (toL O70 (6 : Int))), ad192, cp192⟩) (by repeat' (first | exact Agree.refl _ _ | refine Agree.up ?_ rfl | refine Agree.hav2 ?_ rfl | refine Agree.ups2 ?_ rfl)) (by repeat' (first | exact trivial | refine ⟨by first | rfl | exact int_succ _ | assumption, ?_⟩)) ?_)
 exact ⟨⟨hS355, (by show i + 1 ≤ vs.length; omega), (by show i + 1 ≤ 60; omega), (by show inc + 1 ≤ i + 1; omega), (by show 0 ≤ 1; omega), hT321, hdk321, (by first | omega | (dsimp only; omega)), hrs321, (by first | omega | (dsimp only; omega)), hIp, (by first | omega | (dsimp only; omega)), (by first | omega | (dsimp only; omega))⟩, by (show vs.length - (i + 1) < vs.length - i); omega⟩
 have hc301b := hc301
 try simp only [zbb] at hc301
 refine wp_skip ?_
 refine hK55 _ _ ?_
 refine wp_region_lit ?_
 refine l_q rfl rfl (q_moveI rfl) ?_
 refine l_q rfl rfl (q_addx rfl rfl (by first | decide | omega) (by first | decide | omega)) ?_
 refine l_q rfl rfl (q_assignI rfl) ?_
 refine l_nil ?_
 have hS356 : St _ _ [_, _, _, _, _, .fz g70, _, _, _, _, _, _, _] _ := hS223.front (k := 12) rfl rfl; clear hS223
 have hS357 : St _ _ [_, _, _, _, _, _, .fz g70, _, _, _, _, _, _] _ := hS356.front (k := 12) rfl rfl; clear hS356
 have hS358 := hS357.fr8; clear hS357
 have hS359 := hS358.fr8; clear hS358
 have hS360 : St _ _ [_, _, _, _, _, _, _, _, _, .fz g70, _, _, _] _ := hS359.front (k := 12) rfl rfl; clear hS359
 have hS361 := hS360.fr9; clear hS360
 have hS362 : St _ _ [_, .fz g70, _, _, _, _, _, _, _, _, _, _, _] _ := hS361.front (k := 11) rfl rfl; clear hS361
 have hS363 : St _ _ [_, _, .fz g70, _, _, _, _, _, _, _, _, _, _] _ := hS362.front (k := 11) rfl rfl; clear hS362
 have hS364 : St _ _ [_, _, _, .fz g70, _, _, _, _, _, _, _, _, _] _ := hS363.front (k := 11) rfl rfl; clear hS363
 have hS365 : St _ _ [_, _, _, .fz g70, _, _, _, _, _] _ := hS364.only 9; clear hS364
 refine hK50 _ _ (came (⟨(i + 1), k, kw, mb, inc, cnt, T70, kd, wa70, wc70, rs70, da70, dc70, l70, g70, N2, Y2, ya, yc, R2, ra, rc, (CM ++ (toL O70 (5 : Int))), ad188, cp188, (AB ++ (toL O70 (6 : Int))), ad192, cp192⟩) (by repeat' (first | exact Agree.refl _ _ | refine Agree.up ?_ rfl | refine Agree.hav2 ?_ rfl | refine Agree.ups2 ?_ rfl)) (by repeat' (first | exact trivial | refine ⟨by first | rfl | exact int_succ _ | assumption, ?_⟩)) ?_)
 exact ⟨⟨hS365, (by show i + 1 ≤ vs.length; omega), (by show i + 1 ≤ 60; omega), (by show inc ≤ i + 1; omega), hcn, hT70, hd2, (by first | omega | (dsimp only; omega)), hrs70, (by first | omega | (dsimp only; omega)), hI2, (by first | omega | (dsimp only; omega)), (by first | omega | (dsimp only; omega))⟩, by (show vs.length - (i + 1) < vs.length - i); omega⟩
 have hc54b := hc54
 try simp only [zbb] at hc54
 refine wp_exit ?_
 refine hK34 _ _ ?_
 refine wp_seq_k (fun K366 hK366 => ?_)
 refine wp_region_lit ?_
 refine l_e rfl (fun K hK => ?_)
 refine e_call (by kernel_rfl) (alive13_ok _) rfl (after_R hS50 (fun v367 w367 hv367 hS367 => ?_))
 clear hS50
 obtain rfl := hv367
 refine hK _ _ ?_; clear hK K
 refine l_q rfl rfl (q_assignB rfl) ?_
 refine l_nil ?_
 refine hK366 _ _ ?_
 refine wp_ret ?_
 refine c_ret1 rfl rfl ?_
 first | exact ⟨_, rfl, rfl, hS367.drop⟩ | exact ⟨_, rfl, congrArg Value.bool (decide_eq_true (by omega)), hS367.drop⟩
 have hg53b := hg53
 try simp only [zbb] at hg53
 refine l_off rfl rfl rfl hg53b ?_
 refine l_off rfl rfl rfl hg53b ?_
 refine l_q rfl rfl (q_pickF rfl hg53b rfl) ?_
 refine l_nil ?_
 refine hK52 _ _ ?_
 refine c_condF rfl rfl ?_
 refine wp_exit ?_
 refine hK34 _ _ ?_
 refine wp_seq_k (fun K369 hK369 => ?_)
 refine wp_region_lit ?_
 refine l_e rfl (fun K hK => ?_)
 refine e_call (by kernel_rfl) (alive13_ok _) rfl (after_R hS50 (fun v370 w370 hv370 hS370 => ?_))
 clear hS50
 obtain rfl := hv370
 refine hK _ _ ?_; clear hK K
 refine l_q rfl rfl (q_assignB rfl) ?_
 refine l_nil ?_
 refine hK369 _ _ ?_
 refine wp_ret ?_
 refine c_ret1 rfl rfl ?_
 first | exact ⟨_, rfl, rfl, hS370.drop⟩ | exact ⟨_, rfl, congrArg Value.bool (decide_eq_true (by omega)), hS370.drop⟩
 refine l_e rfl (fun K hK => ?_)
 refine e_call (by kernel_rfl) (ask_any k8 kw8 nd 0 (0 + 1) mb8 oa16 [] oc16 [(nd, b16, zeroTx)] hT16 g16 hO16 (by first | omega | (simp only [zll] <;> omega)) nd ns ns.length (by first | omega | (simp only [zll] <;> omega)) (by first | omega | (simp only [zll] <;> omega)) na nc _ _ (St.rogB (Γ1 := [_, _]) hS19) hN (St.begin (Γ := [_, _]) hS19)) rfl (after_M (Γ1 := [_, _]) hS19 (fun v371 G371 w371 hv371 hS371 => ?_))
 clear hS19
 obtain ⟨a371, oa371, oc371, O371, T371, g371, rfl, rfl, hle371, hO371, hT371, hE371⟩ := hv371
 have hS372 : St _ _ [co k8 kw8 nd 0 (0 + 1) mb8 oa371 O371 oc371 T371, .fz g371, _, _, _] _ := hS371; clear hS371
 have hR371_2 := RsOk.mono hR16_2 hle371
 refine hK _ _ ?_; clear hK K
 obtain ⟨ea371, eT371, eO371⟩ := val3 hE371 (ask_not rfl rfl (by cases h : (ofL ns).2 with | true => exact absurd h hof | false => rfl))
 subst ea371
 obtain ⟨b371, eN371⟩ := abs_one eT371
 subst eN371
 have eM371 := los_nil eO371
 subst eM371
 refine l_q rfl rfl (q_neq rfl rfl) ?_
 refine l_nil ?_
 refine hK25 _ _ ?_
 refine c_condT rfl (by decide) ?_
 refine wp_seq_k (fun K374 hK374 => ?_)
 refine wp_region_lit ?_
 refine l_e rfl (fun K hK => ?_)
 refine e_call (by kernel_rfl) (alive13_ok _) rfl (after_R hS372 (fun v375 w375 hv375 hS375 => ?_))
 clear hS372
 obtain rfl := hv375
 refine hK _ _ ?_; clear hK K
 refine l_q rfl rfl (q_moveB rfl) ?_
 refine l_on rfl rfl rfl ?_
 refine l_q rfl rfl (q_moveP rfl) ?_
 refine l_on rfl rfl rfl ?_
 refine l_q rfl rfl (q_moveI rfl) ?_
 refine l_on rfl rfl rfl ?_
 refine l_e rfl (fun K hK => ?_)
 refine e_call (by kernel_rfl) (state_any k8 kw8 nd 0 (0 + 1) mb8 oa371 [] oc371 [(nd, b371, zeroTx)] hT371 g371 hO371 (by first | omega | (simp only [zll] <;> omega)) nd _ (St.begin (Γ := [_, _]) hS375)) rfl (after_M (Γ1 := [_, _]) hS375 (fun v376 G376 w376 hv376 hS376 => ?_))
 clear hS375
 obtain ⟨a376, rfl, rfl, hE376⟩ := hv376
 have hS377 : St _ _ [co k8 kw8 nd 0 (0 + 1) mb8 oa371 [] oc371 [(nd, b371, zeroTx)], .fz g371, _, _, _] _ := hS376; clear hS376
 refine hK _ _ ?_; clear hK K
 have ha376 : a376 = 1 := hE376.symm.trans (sta_one rfl)
 subst ha376
 refine l_on rfl rfl rfl ?_
 refine l_q rfl rfl (q_eql rfl rfl) ?_
 refine l_q rfl rfl (q_pickT rfl rfl rfl) ?_
 refine l_q rfl rfl (q_assignB rfl) ?_
 refine l_nil ?_
 refine hK374 _ _ ?_
 refine wp_ret ?_
 refine c_ret1 rfl rfl ?_
 first | exact ⟨_, rfl, rfl, hS377.drop⟩ | exact ⟨_, rfl, congrArg Value.bool (decide_eq_true (by omega)), hS377.drop⟩
 refine l_e rfl (fun K hK => ?_)
 refine e_call (by kernel_rfl) (open_arg nd hnd _ _) rfl (after_R hS6 (fun v378 w378 hv378 hS378 => ?_))
 clear hS6
 obtain rfl := hv378
 refine hK _ _ ?_; clear hK K
 refine l_q rfl rfl (q_move rfl) ?_
 refine l_q rfl rfl (q_extract rfl rfl) ?_
 refine l_q rfl rfl (q_extract rfl rfl) ?_
 refine l_q rfl rfl (q_assignP rfl) ?_
 refine l_q rfl rfl (q_assignI rfl) ?_
 refine l_nil ?_
 refine hK7 _ _ ?_
 refine wp_seq_k (fun K379 hK379 => ?_)
 refine wp_seq_k (fun K380 hK380 => ?_)
 refine wp_region_lit ?_
 refine l_q rfl rfl (q_moveI rfl) ?_
 refine l_q rfl rfl (q_neq rfl rfl) ?_
 refine l_q rfl rfl (q_moveB rfl) ?_
 refine l_off rfl rfl rfl (by decide) ?_
 refine l_off rfl rfl rfl (by decide) ?_
 refine l_q rfl rfl (q_pickT rfl (by decide) rfl) ?_
 refine l_nil ?_
 refine hK380 _ _ ?_
 refine c_condT rfl rfl ?_
 refine wp_seq_k (fun K382 hK382 => ?_)
 refine wp_region_lit ?_
 refine l_e rfl (fun K hK => ?_)
 refine e_call (by kernel_rfl) (alive13_ok _) rfl (after_R hS378 (fun v383 w383 hv383 hS383 => ?_))
 clear hS378
 obtain rfl := hv383
 refine hK _ _ ?_; clear hK K
 refine l_q rfl rfl (q_moveB rfl) ?_
 refine l_on rfl rfl rfl ?_
 refine l_q rfl rfl (q_moveI rfl) ?_
 refine l_on rfl rfl rfl ?_
 refine l_q rfl rfl (q_eql rfl rfl) ?_
 refine l_q rfl rfl (q_pickT rfl rfl rfl) ?_
 refine l_q rfl rfl (q_assignB rfl) ?_
 refine l_nil ?_
 refine hK382 _ _ ?_
 refine wp_ret ?_
 refine c_ret1 rfl rfl ?_
 first | exact ⟨_, rfl, rfl, hS383.drop⟩ | exact ⟨_, rfl, congrArg Value.bool (decide_eq_true (by omega)), hS383.drop⟩
end Go.Proofs.Yteojpdijmnpmgaa
namespace Go.Proofs.Yteojpdijmnpmgaa
open Go.ChangeShapes Go.WideShapes Go.ChangeAt Go.RowKit
set_option maxRecDepth 100000 in
theorem coordinatorDecides_lifted (os : Os) (started : os.Started) (H : Type) (enc : TypeId × Value → H) :
    ReturnsInHanded {} Try.checked os 4 .any (Rows.coordinatorDecidesSpec.pre6 enc Try.prog Try.f4 Rows.coordinatorDecidesRow.domain false) (Rows.coordinatorDecidesSpec.post enc Try.prog Try.f4 false true false false) := by
  refine returnsInHanded_of_change (C := Try.checked) own7 started (by kernel_rfl) Try.func4
    (ChangeSpec.witness6 (enc := enc) (C := Try.checked) false ⟨#[], #[.int .i64 0, .agg #[.slice none 0 0, .slice none 0 0, .int .i64 0]], []⟩ 8 (by kernel_rfl) (by kernel_rfl) (by kernel_rfl) (by kernel_rfl)) ?_
  intro W base args ds gs before hval0 hW hcnd _
  have hval : ∀ (j : Nat) t v, Try.f4.params[j]? = some t → args[j]? = some v → Value.okWide Try.prog W .any base t v := hval0
  have hW' := hW
  obtain ⟨p, q, hA0, hV0, rfl, hfz, hnd⟩ := hW
  have hA : DataW.TrodAll enc Try.prog W 0 (fun _ => true) true Try.f4.params.toList args.toList ds p := hA0
  have hV : DataW.TrodVars enc Try.prog W (fun _ => true) [] gs q := hV0
  rw [Try.params4] at hA hval
  obtain ⟨v0, v1, d0, d1, q0, q1, rfl, rfl, rfl, h0, h1⟩ := trodAll_two hA
  obtain ⟨rfl, rfl⟩ := trodVars_none hV
  obtain ⟨nd, rfl, rfl, rfl, wnd⟩ := open_int Try.underlying3 (hval 0 3 v0 rfl rfl) h0
  have bnd := bnd_i64 wnd
  obtain ⟨ns, na, nc, vs, va, vc, keep, rfl, hN, hV, hvs, hkp⟩ := opn_case (hval 1 25 v1 rfl rfl) h1
  clear hA0 hval0
  simp only [List.append_nil] at hW'
  have hlt1 : ∀ x ∈ q1, x.block < W.heap.size := fun x hx => by simpa using hW'.lt x (by simp [hx])
  have e1 : Rows.coordinatorDecidesSpec.fn H ([.lit (.int .i64 nd), d1] ++ []) = { results := [.lit (.bool true)], args := [.lit (.int .i64 nd), d1] } := by simp [Rows.coordinatorDecidesSpec]
  refine (decides_ok nd ns na nc vs va vc keep hkp hvs W hN hV).mono fun e W' hw0 => ?_
  obtain ⟨rr, he, hrr, hSt⟩ := hw0
  subst he hrr
  have hw : Below W.heap.size W W' := hSt.below
  refine ⟨_, rfl, _, _, _, [], [] ++ q1, [], hW', ?_, ?_, ?_, hw.frame _, fun h => by cases h⟩
  · rw [e1]; exact trodAll_mk1 (shut_bool Try.underlying4 true)
  · rw [e1]; exact trodAll_mk2 (shut_int Try.underlying3 wnd) (Below.trod laidOut7 (by kernel_rfl) (of_decide_eq_true (by kernel_rfl)) h1 hw hlt1)
  · rw [e1]; rfl

theorem coordinatorDecides_holds : Rows.CoordinatorDecidesSaid :=
  OpenClaim.holds_of_wide 4 Try.f4 rfl rfl rfl rfl rfl rfl rfl ⟨rfl, rfl, rfl, rfl, rfl⟩ rfl rfl rfl rfl rfl (by kernel_rfl) Try.func4 (by kernel_rfl)
    (of_decide_eq_true (by kernel_rfl)) (by unfold Func.isWrapper; rw [if_neg (of_decide_eq_false (by kernel_rfl))]; exact ⟨rfl, rfl⟩)
    (fun os started H enc _ => coordinatorDecides_lifted os started H enc)
#print axioms coordinatorDecides_holds
end Go.Proofs.Yteojpdijmnpmgaa
