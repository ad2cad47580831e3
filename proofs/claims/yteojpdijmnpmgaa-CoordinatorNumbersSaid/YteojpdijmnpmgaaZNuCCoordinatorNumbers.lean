/- CoordinatorNumbers: no number twice, for every input. No conditions. -/
import Derived.Test.YteojpdijmnpmgaaZNu4
import Derived.Test.YteojpdijmnpmgaaRows
import Derived.ProofKit
set_option linter.unusedVariables false
set_option linter.unusedSimpArgs false
namespace Go.Proofs.Yteojpdijmnpmgaa
open Go.RowKit
theorem DiskIs.again {l : List Nat} {i : Nat} {T : List (Int × Tx)} (h : DiskIs l (i, T)) (hl : l.length ≤ 1045000) (hi : i ≤ 1000000) : DiskIs (recL l [0, ((i : Nat) : Int)]) (i + 1, T) :=
  h.rec (ns := [0, ((i : Nat) : Int)]) (Nat.le_of_ble_eq_true rfl) (Nat.le_of_ble_eq_true rfl) (by intro x hx; simp only [List.mem_cons, List.not_mem_nil, or_false] at hx; rcases hx with rfl | rfl <;> omega) hl
theorem again_len {l : List Nat} {i : Nat} {T : List (Int × Tx)} (h : DiskIs l (i, T)) (hi : i ≤ 1000000) (z : Nat) : (recL l [0, ((i : Nat) : Int)]).length ≤ l.length + 3382 := (rec_grew h.1 (by intro x hx; simp only [List.mem_cons, List.not_mem_nil, or_false] at hx; rcases hx with rfl | rfl <;> omega)).2.1
attribute [local irreducible] Oper.wp Sem.run Code.wp wpList wpAnyO callFunc execOp Calls
attribute [local irreducible] toU short rencs renc rowE encRow rightB zig unzig decRw risB lastN bitsOf nodesTo readL recB ofL sends getT delT setT waL waE waN waR apL apE replayF replayR rdB rdE scan nums askF numB staT pickN
set_option maxHeartbeats 4000000 in
set_option maxRecDepth 100000 in
theorem numbers_ok (nd : Int) (ps : List Bool) (pa : Option Addr) (pc : Nat) (keep : Int) (hkp : -9223372036854775808 ≤ keep) (w : World) (hP : SlG (hw w) pa (List.flatMap bo1 ps))  : Calls Try.prog 5 #[.int .i64 nd, .slice pa ps.length pc, .int .i64 keep] w (PostR w fun v => v = .bool true) := by
 have hS := St.start w
 refine c_enter Try.func5 rfl rfl rfl ?_
 refine wp_seq_k (fun K1 hK1 => ?_)
 refine wp_region_lit ?_
 refine l_q rfl rfl (q_assignB rfl) ?_
 refine l_nil ?_
 refine hK1 _ _ ?_
 refine wp_seq_k (fun K2 hK2 => ?_)
 refine wp_region_lit ?_
 refine l_e rfl (fun K hK => ?_)
 refine e_call (by kernel_rfl) (dNew_ok _) rfl (after_N hS (fun v3 G3 w3 hv3 hS3 => ?_))
 clear hS
 obtain ⟨k3, rfl, rfl⟩ := hv3
 have hS4 : St _ _ [dk k3 none 0 [] 0 0] _ := hS3; clear hS3
 refine hK _ _ ?_; clear hK K
 have hS5 := hS4.fz0; clear hS4
 refine l_q rfl rfl (q_assignP rfl) ?_
 refine l_nil ?_
 refine hK2 _ _ ?_
 refine wp_seq_k (fun K6 hK6 => ?_)
 refine wp_region_lit ?_
 refine l_q rfl rfl (q_moveP rfl) ?_
 refine l_q rfl rfl (q_moveI rfl) ?_
 by_cases hnd : 0 ≤ nd ∧ nd < 16
 refine l_e rfl (fun K hK => ?_)
 have hS8 := hS5.fr1; clear hS5
 refine e_call (by kernel_rfl) (open_ok nd hnd _ _ _ [] 0 0 Bytes.nil (by first | omega | (simp only [zll] <;> omega)) (by first | omega | (simp only [zll] <;> omega)) _ (by first | omega | (simp only [zll] <;> omega)) (by rw [scan_nil]; exact Nat.zero_le _) (by rw [scan_nil]; show (replayR [] (0, [])).1 ≤ 65536; rw [replayR_nil]; exact Nat.zero_le _) _ (St.begin (Γ := [_, _]) hS8)) rfl (after_M (Γ1 := [_, _]) hS8 (fun v7 G7 w7 hv7 hS7 => ?_))
 clear hS8
 obtain ⟨k7, kw7, mb7, wa7, wc7, inc7, T7, rs7, da7, dc7, g7, rfl, rfl, hle7, hT7, hst7, hrs7, hrl7⟩ := hv7
 have hS9 : St _ _ [co k7 kw7 nd inc7 0 mb7 none [] 0 T7, wk kw7 k3 wa7 wc7 rs7, dk k3 da7 dc7 (recL ([].take (scan [] 0).2) [0, (inc7 : Int)]) 0 ((recL ([].take (scan [] 0).2) [0, (inc7 : Int)]).length), .fz g7] _ := hS7; clear hS7
 refine hK _ _ ?_; clear hK K
 have hsn0 : scan [] 0 = ([], 0) := scan_nil 0
 rw [hsn0, replayR_nil] at hst7
 have hi0 : inc7 = 0 := congrArg Prod.fst hst7
 have hT0 : T7 = [] := abs_nil (congrArg Prod.snd hst7)
 rw [hsn0] at hrl7
 subst hi0 hT0
 obtain ⟨l0, hl0e⟩ : ∃ l0, l0 = recL [] [0, 0] := ⟨_, rfl⟩
 have hS10 : St _ _ [co k7 kw7 nd 0 0 mb7 none [] 0 [], _, dk k3 da7 dc7 l0 0 l0.length, .fz g7] _ := hS9.cast (by rw [hl0e, hsn0]; rfl); clear hS9
 obtain ⟨hl0, hd0, hlen0⟩ := disk0 hl0e
 have hrl7' : rs7.length ≤ 1 := hrl7
 refine l_q rfl rfl (q_move rfl) ?_
 refine l_q rfl rfl (q_extract rfl rfl) ?_
 refine l_q rfl rfl (q_extract rfl rfl) ?_
 refine l_q rfl rfl (q_assignP rfl) ?_
 refine l_q rfl rfl (q_assignI rfl) ?_
 refine l_nil ?_
 refine hK6 _ _ ?_
 refine wp_seq_k (fun K11 hK11 => ?_)
 refine wp_seq_k (fun K12 hK12 => ?_)
 refine wp_region_lit ?_
 refine l_q rfl rfl (q_moveI rfl) ?_
 refine l_q rfl rfl (q_neq rfl rfl) ?_
 refine l_q rfl rfl (q_moveB rfl) ?_
 refine l_on rfl rfl (by decide) ?_
 refine l_q rfl rfl (q_moveP rfl) ?_
 refine l_on rfl rfl (by decide) ?_
 refine l_q rfl rfl (q_peq rfl (by kernel_rfl)) ?_
 refine l_q rfl rfl (q_pickF rfl (by decide) rfl) ?_
 refine l_nil ?_
 refine hK12 _ _ ?_
 refine c_condF rfl rfl ?_
 refine wp_skip ?_
 refine hK11 _ _ ?_
 refine wp_seq_k (fun K14 hK14 => ?_)
 refine wp_region_lit ?_
 refine l_q rfl rfl (q_assignS rfl) ?_
 refine l_nil ?_
 refine hK14 _ _ ?_
 refine wp_seq_k (fun K15 hK15 => ?_)
 refine wp_seq_k (fun K16 hK16 => ?_)
 refine wp_region_lit ?_
 refine l_q rfl rfl (q_assignI rfl) ?_
 refine l_nil ?_
 refine hK16 _ _ ?_
 refine wp_block ?_
 have hS17 := hS10.ow_nil 3 1; clear hS10
 have hS18 := hS17.fr4; clear hS17
 have hS19 := hS18.fr4; clear hS18
 have hS20 := hS19.fr4; clear hS19
 have hS21 := hS20.fr4; clear hS20
 refine c_loop (τ := Nat × Nat × Nat × Nat × Nat × Nat × (Option Addr) × Nat × (List (Int × Nat × Tx)) × Nat × (Option Addr) × Nat × (List Rc) × (Option Addr) × Nat × (List Nat) × Gh × (List Int) × (Option Addr) × Nat) [(6, 13), (32, 100)] (fun x => (fun (i : Nat) (k : Nat) (kw : Nat) (mb : Nat) (inc : Nat) (cnt : Nat) (oa : Option Addr) (oc : Nat) (T : List (Int × Nat × Tx)) (kd : Nat) (wa : Option Addr) (wc : Nat) (rs : List Rc) (da : Option Addr) (dc : Nat) (l : List Nat) (g : Gh) (Q : List Int) (qa : Option Addr) (qc : Nat) => [(11, .int .i64 (i : Int)), (8, .pointer (some ⟨k, 0, none⟩)), (7, .pointer (some ⟨kd, 0, none⟩)), (10, .slice qa Q.length qc)]) x.1 x.2.1 x.2.2.1 x.2.2.2.1 x.2.2.2.2.1 x.2.2.2.2.2.1 x.2.2.2.2.2.2.1 x.2.2.2.2.2.2.2.1 x.2.2.2.2.2.2.2.2.1 x.2.2.2.2.2.2.2.2.2.1 x.2.2.2.2.2.2.2.2.2.2.1 x.2.2.2.2.2.2.2.2.2.2.2.1 x.2.2.2.2.2.2.2.2.2.2.2.2.1 x.2.2.2.2.2.2.2.2.2.2.2.2.2.1 x.2.2.2.2.2.2.2.2.2.2.2.2.2.2.1 x.2.2.2.2.2.2.2.2.2.2.2.2.2.2.2.1 x.2.2.2.2.2.2.2.2.2.2.2.2.2.2.2.2.1 x.2.2.2.2.2.2.2.2.2.2.2.2.2.2.2.2.2.1 x.2.2.2.2.2.2.2.2.2.2.2.2.2.2.2.2.2.2.1 x.2.2.2.2.2.2.2.2.2.2.2.2.2.2.2.2.2.2.2) (fun x w' => (fun (i : Nat) (k : Nat) (kw : Nat) (mb : Nat) (inc : Nat) (cnt : Nat) (oa : Option Addr) (oc : Nat) (T : List (Int × Nat × Tx)) (kd : Nat) (wa : Option Addr) (wc : Nat) (rs : List Rc) (da : Option Addr) (dc : Nat) (l : List Nat) (g : Gh) (Q : List Int) (qa : Option Addr) (qc : Nat) => St w (fun _ => False) [co k kw nd inc cnt mb oa [] oc T, wk kw kd wa wc rs, dk kd da dc l 0 l.length, .fz g, .ow 3 1 qa Q.length qc (iv Q)] w' ∧ i ≤ ps.length ∧ i ≤ 60 ∧ inc + cnt ≤ i ∧ TOk T ∧ DiskIs l (inc + 1, []) ∧ l.length ≤ 3382 * (inc + 1) ∧ RsOk g rs ∧ rs.length ≤ 450001 ∧ (∀ x ∈ Q, x < numB nd inc cnt) ∧ Q.length = i) x.1 x.2.1 x.2.2.1 x.2.2.2.1 x.2.2.2.2.1 x.2.2.2.2.2.1 x.2.2.2.2.2.2.1 x.2.2.2.2.2.2.2.1 x.2.2.2.2.2.2.2.2.1 x.2.2.2.2.2.2.2.2.2.1 x.2.2.2.2.2.2.2.2.2.2.1 x.2.2.2.2.2.2.2.2.2.2.2.1 x.2.2.2.2.2.2.2.2.2.2.2.2.1 x.2.2.2.2.2.2.2.2.2.2.2.2.2.1 x.2.2.2.2.2.2.2.2.2.2.2.2.2.2.1 x.2.2.2.2.2.2.2.2.2.2.2.2.2.2.2.1 x.2.2.2.2.2.2.2.2.2.2.2.2.2.2.2.2.1 x.2.2.2.2.2.2.2.2.2.2.2.2.2.2.2.2.2.1 x.2.2.2.2.2.2.2.2.2.2.2.2.2.2.2.2.2.2.1 x.2.2.2.2.2.2.2.2.2.2.2.2.2.2.2.2.2.2.2) (fun x => (fun (i : Nat) (k : Nat) (kw : Nat) (mb : Nat) (inc : Nat) (cnt : Nat) (oa : Option Addr) (oc : Nat) (T : List (Int × Nat × Tx)) (kd : Nat) (wa : Option Addr) (wc : Nat) (rs : List Rc) (da : Option Addr) (dc : Nat) (l : List Nat) (g : Gh) (Q : List Int) (qa : Option Addr) (qc : Nat) => ps.length - i) x.1 x.2.1 x.2.2.1 x.2.2.2.1 x.2.2.2.2.1 x.2.2.2.2.2.1 x.2.2.2.2.2.2.1 x.2.2.2.2.2.2.2.1 x.2.2.2.2.2.2.2.2.1 x.2.2.2.2.2.2.2.2.2.1 x.2.2.2.2.2.2.2.2.2.2.1 x.2.2.2.2.2.2.2.2.2.2.2.1 x.2.2.2.2.2.2.2.2.2.2.2.2.1 x.2.2.2.2.2.2.2.2.2.2.2.2.2.1 x.2.2.2.2.2.2.2.2.2.2.2.2.2.2.1 x.2.2.2.2.2.2.2.2.2.2.2.2.2.2.2.1 x.2.2.2.2.2.2.2.2.2.2.2.2.2.2.2.2.1 x.2.2.2.2.2.2.2.2.2.2.2.2.2.2.2.2.2.1 x.2.2.2.2.2.2.2.2.2.2.2.2.2.2.2.2.2.2.1 x.2.2.2.2.2.2.2.2.2.2.2.2.2.2.2.2.2.2.2) (⟨0, k7, kw7, mb7, 0, 0, none, 0, [], k3, wa7, wc7, rs7, da7, dc7, l0, g7, [], none, 0⟩) ?_ (by repeat' (first | exact trivial | refine ⟨rfl, ?_⟩)) (fun x22 j22 w22 hJ22 K22 hK22 => ?_)
 exact ⟨hS21, Nat.zero_le _, (by first | omega | (dsimp only; omega)), Nat.le_refl _, TOk.nil, hd0, hlen0, hrs7, (by first | omega | (dsimp only; omega)), fun x hx => (by cases hx), rfl⟩
 obtain ⟨i, k, kw, mb, inc, cnt, oa, oc, T, kd, wa, wc, rs, da, dc, l, g, Q, qa, qc⟩ := x22
 obtain ⟨hS22, hi, hi6, hic, hT, hd, hll, hR, hrn, hQ, hQl⟩ := hJ22
 try dsimp only at hS22 hi hi6 hic hT hd hll hR hrn hQ hQl ⊢
 have hl := hd.1
 have hnm := numB_mod hnd inc cnt
 have hnc := numB_cnt nd inc cnt
 have hni := numB_inc (nd := nd) (i := inc) (c := cnt) (by omega)
 have hnb := numB_bd (nd := nd) (inc := inc) (cnt := cnt) (by omega) (by omega) hnd
 refine wp_seq_k (fun K23 hK23 => ?_)
 refine wp_seq_k (fun K24 hK24 => ?_)
 refine wp_region_lit ?_
 refine l_q rfl rfl (q_moveI rfl) ?_
 refine l_q rfl rfl (q_moveS rfl) ?_
 refine l_q rfl rfl (q_lenSl (e := 4) rfl (by kernel_rfl)) ?_
 refine l_q rfl rfl (q_lss rfl rfl) ?_
 refine l_q rfl rfl (q_moveB rfl) ?_
 refine g_splitL (t := 36) rfl (fun hg25 => ?_) (fun hg25 => ?_)
 have hg25b := hg25
 try simp only [zbb] at hg25
 refine l_on rfl rfl hg25b ?_
 refine l_q rfl rfl (q_moveI rfl) ?_
 refine l_on rfl rfl hg25b ?_
 refine l_q rfl rfl (q_lss rfl rfl) ?_
 refine l_q rfl rfl (q_pickT rfl hg25b rfl) ?_
 refine l_nil ?_
 refine hK24 _ _ ?_
 refine c_cond rfl (fun hc26 => ?_) (fun hc26 => ?_)
 have hc26b := hc26
 try simp only [zbb] at hc26
 refine wp_skip ?_
 refine hK23 _ _ ?_
 refine wp_seq_k (fun K27 hK27 => ?_)
 refine wp_block ?_
 refine wp_seq_k (fun K28 hK28 => ?_)
 refine wp_region_lit ?_
 refine l_q rfl rfl (q_moveP rfl) ?_
 refine l_e rfl (fun K hK => ?_)
 have hS30 := hS22.fr3; clear hS22
 have hS31 := hS30.fr1; clear hS30
 refine e_call (by kernel_rfl) (begin_ok k kw nd inc cnt mb oa [] oc T hT g LOk.nil (by first | omega | (simp only [zll] <;> omega)) (numB nd inc cnt) (by first | omega | (simp only [zll] <;> omega)) (by first | omega | (simp only [zll] <;> omega)) hnd rfl _ (St.begin (Γ := [_, _]) hS31)) rfl (after_M (Γ1 := [_, _]) hS31 (fun v29 G29 w29 hv29 hS29 => ?_))
 clear hS31
 obtain ⟨oa29, oc29, O29, T29, g29, rfl, rfl, hle29, hO29, hT29, hab29, hOe29⟩ := hv29
 have hS32 : St _ _ [co k kw nd inc (cnt + 1) mb oa29 O29 oc29 T29, .fz g29, wk kw kd wa wc rs, dk kd da dc l 0 l.length, .ow 3 1 qa Q.length qc (iv Q)] _ := hS29; clear hS29
 have hR29_2 := RsOk.mono hR hle29
 refine hK _ _ ?_; clear hK K
 have eM29 := los_nil hOe29
 subst eM29
 refine l_q rfl rfl (q_move rfl) ?_
 refine l_q rfl rfl (q_extract rfl rfl) ?_
 refine l_q rfl rfl (q_extract rfl rfl) ?_
 refine l_q rfl rfl (q_assignI rfl) ?_
 refine l_q rfl rfl (q_assignI rfl) ?_
 refine l_nil ?_
 refine hK28 _ _ ?_
 refine wp_seq_k (fun K33 hK33 => ?_)
 refine wp_seq_k (fun K34 hK34 => ?_)
 refine wp_region_lit ?_
 refine l_q rfl rfl (q_moveI rfl) ?_
 refine l_q rfl rfl (q_neq rfl rfl) ?_
 refine l_q rfl rfl (q_moveB rfl) ?_
 refine l_on rfl rfl (by decide) ?_
 refine l_q rfl rfl (q_moveS rfl) ?_
 refine l_on rfl rfl (by decide) ?_
 refine l_q rfl rfl (q_moveI rfl) ?_
 refine l_on rfl rfl (by decide) ?_
 refine l_e rfl (fun K hK => ?_)
 refine e_call (by kernel_rfl) (has13_ok Q (numB nd inc cnt) Q.length (by first | omega | (simp only [zll] <;> omega)) (by first | omega | (simp only [zll] <;> omega)) _ _ _ (hS32.owG (i := 4) rfl)) rfl (after_R hS32 (fun v35 w35 hv35 hS35 => ?_))
 clear hS32
 obtain rfl := hv35
 refine hK _ _ ?_; clear hK K
 refine l_q rfl rfl (q_pickF rfl (by decide) rfl) ?_
 refine l_q rfl rfl (q_moveB rfl) ?_
 refine g_splitL (t := 54) rfl (fun hg36 => ?_) (fun hg36 => ?_)
 have hg36b := hg36
 try simp only [zbb] at hg36
 exfalso; first | omega | (have := hQ _ hg36; omega) | exact hg36 trivial
 have hg36b := hg36
 try simp only [zbb] at hg36
 refine l_on rfl rfl hg36b ?_
 refine l_q rfl rfl (q_moveI rfl) ?_
 refine l_on rfl rfl hg36b ?_
 refine l_q rfl rfl (q_rem rfl rfl (by first | decide | omega)) ?_
 refine l_on rfl rfl hg36b ?_
 refine l_q rfl rfl (q_moveI rfl) ?_
 refine l_on rfl rfl hg36b ?_
 refine l_q rfl rfl (q_neq rfl rfl) ?_
 refine l_q rfl rfl (q_pickF rfl hg36b rfl) ?_
 refine l_q rfl rfl (q_moveB rfl) ?_
 refine g_splitL (t := 60) rfl (fun hg37 => ?_) (fun hg37 => ?_)
 have hg37b := hg37
 try simp only [zbb] at hg37
 exfalso; first | omega | (have := hQ _ hg37; omega) | exact hg37 trivial
 have hg37b := hg37
 try simp only [zbb] at hg37
 refine l_on rfl rfl hg37b ?_
 refine l_q rfl rfl (q_moveP rfl) ?_
 refine l_on rfl rfl hg37b ?_
 refine l_q rfl rfl (q_moveI rfl) ?_
 refine l_on rfl rfl hg37b ?_
 refine l_e rfl (fun K hK => ?_)
 refine e_call (by kernel_rfl) (state_any k kw nd inc (cnt + 1) mb oa29 [] oc29 T29 hT29 g29 hO29 (by first | omega | (simp only [zll] <;> omega)) (numB nd inc cnt) _ (St.begin (Γ := [_, _]) hS35)) rfl (after_M (Γ1 := [_, _]) hS35 (fun v38 G38 w38 hv38 hS38 => ?_))
 clear hS35
 obtain ⟨a38, rfl, rfl, hE38⟩ := hv38
 have hS39 : St _ _ [co k kw nd inc (cnt + 1) mb oa29 [] oc29 T29, .fz g29, _, _, _] _ := hS38; clear hS38
 refine hK _ _ ?_; clear hK K
 have ha38 : a38 = 1 := by rw [← hE38, hab29, get_set]; exact staT_no rfl
 subst ha38
 refine l_on rfl rfl hg37b ?_
 refine l_q rfl rfl (q_neq rfl rfl) ?_
 refine l_q rfl rfl (q_pickF rfl hg37b rfl) ?_
 refine l_nil ?_
 refine hK34 _ _ ?_
 refine c_condF rfl (by decide) ?_
 refine wp_skip ?_
 refine hK33 _ _ ?_
 refine wp_seq_k (fun K41 hK41 => ?_)
 refine wp_region_lit ?_
 refine l_q rfl rfl (q_moveS rfl) ?_
 refine l_q rfl rfl (q_moveI rfl) ?_
 refine l_e rfl (fun K hK => ?_)
 refine e_buildSlice1 (e := 3) (zv := .int .i64 0) (xs := [.tmp 67]) hS39 (by kernel_rfl) (by kernel_rfl) (by kernel_rfl) rfl rfl rfl rfl (allone (by repeat' (first | exact trivial | refine ⟨by first | rfl | assumption, ?_⟩))) rfl (fun b42 w42 (hS42 : St _ _ [.blk b42 (.cells #[.int .i64 (numB nd inc cnt)] 3), _, .fz g29, _, _, _] _) => ?_)
 clear hS39
 have hS42o : St _ _ [.ow 3 1 (some ⟨b42, 0, none⟩) 1 1 (iv [(numB nd inc cnt)]), _, .fz g29, _, _, _] _ := hS42.blkOw' (i := 0) (m := 1) (size := 1) (xs := iv [(numB nd inc cnt)]) rfl rfl rfl (by decide); clear hS42
 refine hK _ _ ?_; clear hK K
 refine l_e rfl (fun K hK => ?_)
 refine e_app (e := 3) (size := 1) (bytes := 8) (i := 5) (m' := (Q ++ [(numB nd inc cnt)]).length) (by kernel_rfl) hS42o rfl rfl rfl (SlG.src (e := 3) (by kernel_rfl) (hS42o.owG (i := 0) rfl) (by first | (simp only [zll, Nat.mul_one]; done) | (simp only [zll]; omega) | rfl | (simp; done)) (by decide) (iv_one _)) (by first | omega | (simp only [zll] <;> omega) | (simp; done)) iv_app (by first | omega | (simp only [maxLen, zll] <;> omega) | (simp only [maxLen]; omega)) (by first | omega | (simp only [zll] <;> omega)) (fun ad43 cp43 w43 (hS43 : St _ _ [_, _, .fz g29, _, _, .ow 3 1 ad43 ((Q ++ [(numB nd inc cnt)]).length) cp43 (iv (Q ++ [(numB nd inc cnt)]))] _) => ?_)
 clear hS42o
 refine hK _ _ ?_; clear hK K
 refine l_q rfl rfl (q_assignS rfl) ?_
 refine l_nil ?_
 refine hK41 _ _ ?_
 refine wp_seq_k (fun K44 hK44 => ?_)
 refine wp_region_lit ?_
 refine l_q rfl rfl (q_moveS rfl) ?_
 refine l_q rfl rfl (q_moveI rfl) ?_
 refine l_q rfl rfl (q_ixG (e := 4) (m := 1) (j := i) rfl rfl (by kernel_rfl) (by kernel_rfl) (by first | rfl | omega) (by omega) hP (by rw [rows_len (c := bo1) (m := 1) (fun _ => rfl)]; first | omega | (simp only [zll] <;> omega))) ?_
 obtain ⟨x45, hx45⟩ : ∃ x, (ps)[i]? = some x := ⟨_, List.getElem?_eq_getElem (by first | omega | (simp only [zll] <;> omega) | (simp <;> omega))⟩
 refine l_q rfl rfl (q_load1 rfl (by kernel_rfl) (SlG.cell (hP.mono hS43.base) (Gle.refl _) (row_at hx45 (c := bo1) (m := 1) (fun _ => rfl) (j := 0) rfl))) ?_
 refine l_nil ?_
 refine hK44 _ _ ?_
 refine c_cond rfl (fun hc46 => ?_) (fun hc46 => ?_)
 have hc46b := hc46
 try simp only [zbb] at hc46
 refine wp_seq_k (fun K47 hK47 => ?_)
 refine wp_region_lit ?_
 refine l_q rfl rfl (q_moveP rfl) ?_
 refine l_q rfl rfl (q_moveI rfl) ?_
 refine l_e rfl (fun K hK => ?_)
 have hS49 := hS43.fr4; clear hS43
 have hF48 := pwN_le (l := l) (s := l.length) keep (by first | omega | (simp only [zll] <;> omega))
 refine e_call (by kernel_rfl) (dPower_ok _ _ _ _ _ _ hl (by first | omega | (simp only [zll] <;> omega)) (by first | omega | (simp only [zll] <;> omega)) _ (by first | omega | (simp only [zll] <;> omega)) _ (St.begin (Γ := [_]) hS49)) rfl (after_M (Γ1 := [_]) hS49 (fun v48 G48 w48 hv48 hS48 => ?_))
 clear hS49
 obtain ⟨k48, ad48, cp48, rfl, rfl⟩ := hv48
 have hS50 : St _ _ [dk k48 ad48 cp48 (l.take (pwN l l.length keep)) 0 (pwN l l.length keep), _, _, _, .fz g29, _, _] _ := hS48; clear hS48
 refine hK _ _ ?_; clear hK K
 have hS51 := hS50.fr6; clear hS50
 have hS52 := hS51.fr5; clear hS51
 have hS53 := hS52.fr4; clear hS52
 have hS54 := hS53.fr3; clear hS53
 have hS55 : St _ _ [_, _, .fz g29, _] _ := hS54.only 4; clear hS54
 have hpa48 := pw_all l keep
 have hS56 : St _ _ [dk k48 ad48 cp48 l 0 l.length, _, .fz g29, _] _ := hS55.cast (by rw [hpa48.2, hpa48.1] <;> rfl); clear hS55
 refine l_q rfl rfl (q_assignP rfl) ?_
 refine l_nil ?_
 refine hK47 _ _ ?_
 refine wp_seq_k (fun K57 hK57 => ?_)
 have hsc58 := DiskIs.scan hd
 have hrn58 : (scan l 0).1.length ≤ 450000 := by have := (scan_len l.length l 0 (Nat.le_refl _)).1; omega
 have hri58 : (replayR (scan l 0).1 (0, [])).1 ≤ 65536 := by rw [hsc58.2]; show (inc + 1) ≤ 65536; omega
 refine wp_region_lit ?_
 refine l_q rfl rfl (q_moveP rfl) ?_
 refine l_q rfl rfl (q_moveI rfl) ?_
 refine l_e rfl (fun K hK => ?_)
 have hS60 := hS56.fr2; clear hS56
 have hS61 := hS60.fr1; clear hS60
 refine e_call (by kernel_rfl) (open_ok nd hnd _ _ _ l 0 l.length hl (by first | omega | (simp only [zll] <;> omega)) (by first | omega | (simp only [zll] <;> omega)) _ (by first | omega | (simp only [zll] <;> omega)) hrn58 hri58 _ (St.begin (Γ := [_, _]) hS61)) rfl (after_M (Γ1 := [_, _]) hS61 (fun v59 G59 w59 hv59 hS59 => ?_))
 clear hS61
 obtain ⟨k59, kw59, mb59, wa59, wc59, inc59, T59, rs59, da59, dc59, g59, rfl, rfl, hle59, hT59, hst59, hrs59, hrl59⟩ := hv59
 have hS62 : St _ _ [co k59 kw59 nd inc59 0 mb59 none [] 0 T59, wk kw59 k48 wa59 wc59 rs59, dk k48 da59 dc59 (recL (l.take (scan l 0).2) [0, (inc59 : Int)]) 0 ((recL (l.take (scan l 0).2) [0, (inc59 : Int)]).length), .fz g59, _, _] _ := hS59; clear hS59
 refine hK _ _ ?_; clear hK K
 rw [hsc58.2] at hst59
 have hi59 : inc59 = (inc + 1) := congrArg Prod.fst hst59
 have eT59 : absT T59 = [] := congrArg Prod.snd hst59
 subst hi59
 have eN59 := abs_nil eT59
 subst eN59
 have htk59 : l.take (scan l 0).2 = l := by rw [hsc58.1, List.take_length]
 obtain ⟨l59, hle59l⟩ : ∃ z, z = recL l [0, (((inc + 1) : Nat) : Int)] := ⟨_, rfl⟩
 have hdk59 : DiskIs l59 ((inc + 1) + 1, []) := by rw [hle59l]; exact DiskIs.again hd (by omega) (by omega)
 have hBl59 := hdk59.1
 have hgw59 : l59.length ≤ l.length + 3382 := by rw [hle59l]; exact again_len hd (by omega) 0
 have hS63 : St _ _ [co k59 kw59 nd (inc + 1) 0 mb59 none [] 0 [], _, dk k48 da59 dc59 l59 0 l59.length, .fz g59, _, _] _ := hS62.cast (by rw [hle59l, htk59] <;> rfl); clear hS62
 refine l_q rfl rfl (q_move rfl) ?_
 refine l_q rfl rfl (q_extract rfl rfl) ?_
 refine l_q rfl rfl (q_extract rfl rfl) ?_
 refine l_q rfl rfl (q_assignP rfl) ?_
 refine l_q rfl rfl (q_assignI rfl) ?_
 refine l_nil ?_
 refine hK57 _ _ ?_
 refine wp_seq_k (fun K64 hK64 => ?_)
 refine wp_region_lit ?_
 refine l_q rfl rfl (q_moveI rfl) ?_
 refine l_q rfl rfl (q_neq rfl rfl) ?_
 refine l_q rfl rfl (q_moveB rfl) ?_
 refine l_on rfl rfl (by decide) ?_
 refine l_q rfl rfl (q_moveP rfl) ?_
 refine l_on rfl rfl (by decide) ?_
 refine l_q rfl rfl (q_peq rfl (by kernel_rfl)) ?_
 refine l_q rfl rfl (q_pickF rfl (by decide) rfl) ?_
 refine l_q rfl rfl (q_moveB rfl) ?_
 refine l_on rfl rfl rfl ?_
 refine l_q rfl rfl (q_moveP rfl) ?_
 refine l_on rfl rfl rfl ?_
 refine l_q rfl rfl (q_moveI rfl) ?_
 refine l_on rfl rfl rfl ?_
 refine l_e rfl (fun K hK => ?_)
 have hS66 := hS63.fr3; clear hS63
 have hS67 := hS66.fr1; clear hS66
 refine e_call (by kernel_rfl) (state_any k59 kw59 nd (inc + 1) 0 mb59 none [] 0 [] hT59 g59 LOk.nil (by first | omega | (simp only [zll] <;> omega)) (numB nd inc cnt) _ (St.begin (Γ := [_, _]) hS67)) rfl (after_M (Γ1 := [_, _]) hS67 (fun v65 G65 w65 hv65 hS65 => ?_))
 clear hS67
 obtain ⟨a65, rfl, rfl, hE65⟩ := hv65
 have hS68 : St _ _ [_, .fz g59, _, _, _, _] _ := hS65; clear hS65
 refine hK _ _ ?_; clear hK K
 have ha65 : a65 = 0 := hE65.symm.trans (sta_nil _)
 subst ha65
 refine l_on rfl rfl rfl ?_
 refine l_q rfl rfl (q_neq rfl rfl) ?_
 refine l_q rfl rfl (q_pickF rfl rfl rfl) ?_
 refine l_q rfl rfl (q_moveB rfl) ?_
 refine l_on rfl rfl (by decide) ?_
 refine l_q rfl rfl (q_moveP rfl) ?_
 refine l_on rfl rfl (by decide) ?_
 refine l_e rfl (fun K hK => ?_)
 refine e_call (by kernel_rfl) (pending_ok k59 kw59 nd (inc + 1) 0 mb59 none [] 0 [] hT59 g59 LOk.nil (by first | omega | (simp only [zll] <;> omega)) (by first | omega | (simp only [zll] <;> omega)) _ (St.begin (Γ := [_, _]) hS68)) rfl (after_M (Γ1 := [_, _]) hS68 (fun v69 G69 w69 hv69 hS69 => ?_))
 clear hS68
 obtain ⟨ad69, cp69, rfl, rfl⟩ := hv69
 have hS70 : St _ _ [.ow 3 1 ad69 ((List.map Prod.fst []).length) cp69 (iv (List.map Prod.fst [])), _, .fz g59, _, _, _, _] _ := hS69; clear hS69
 refine hK _ _ ?_; clear hK K
 refine l_on rfl rfl (by decide) ?_
 refine l_q rfl rfl (q_lenSl (e := 3) rfl (by kernel_rfl)) ?_
 refine l_on rfl rfl (by decide) ?_
 refine l_q rfl rfl (q_bc (b := false) (decide_eq_false (by simp)) (q_neq rfl rfl)) ?_
 refine l_q rfl rfl (q_pickF rfl (by decide) rfl) ?_
 refine l_nil ?_
 refine hK64 _ _ ?_
 refine c_condF rfl rfl ?_
 refine wp_skip ?_
 refine hK27 _ _ ?_
 refine wp_region_lit ?_
 refine l_q rfl rfl (q_moveI rfl) ?_
 refine l_q rfl rfl (q_addx rfl rfl (by first | decide | omega) (by first | decide | omega)) ?_
 refine l_q rfl rfl (q_assignI rfl) ?_
 refine l_nil ?_
 have hS72 := hS70.fr6; clear hS70
 have hS73 := hS72.fr3; clear hS72
 have hS74 := hS73.fr5; clear hS73
 have hS75 := hS74.fr5; clear hS74
 have hS76 := hS75.fr5; clear hS75
 have hS77 : St _ _ [_, _, _, .fz g59, _] _ := hS76.only 5; clear hS76
 refine hK22 _ _ (came (⟨(i + 1), k59, kw59, mb59, (inc + 1), 0, none, 0, [], k48, wa59, wc59, rs59, da59, dc59, l59, g59, (Q ++ [(numB nd inc cnt)]), ad43, cp43⟩) (by repeat' (first | exact Agree.refl _ _ | refine Agree.up ?_ rfl | refine Agree.hav2 ?_ rfl | refine Agree.ups2 ?_ rfl)) (by repeat' (first | exact trivial | refine ⟨by first | rfl | exact int_succ _ | assumption, ?_⟩)) ?_)
 exact ⟨⟨hS77, (by show i + 1 ≤ ps.length; omega), (by show i + 1 ≤ 60; omega), (by show inc + 1 + 0 ≤ i + 1; omega), TOk.nil, hdk59, (by first | omega | (dsimp only; omega)), hrs59, (by first | omega | (dsimp only; omega)), fun x hx => (by show x < numB nd (inc + 1) 0; have h : x ∈ Q ++ [(numB nd inc cnt)] := hx; rw [List.mem_append, List.mem_singleton] at h; rcases h with h | h; (have := hQ x h; omega); omega), (by show (Q ++ [_]).length = i + 1; rw [List.length_append, hQl]; rfl)⟩, by (show ps.length - (i + 1) < ps.length - i); omega⟩
 have hc46b := hc46
 try simp only [zbb] at hc46
 refine wp_skip ?_
 refine hK27 _ _ ?_
 refine wp_region_lit ?_
 refine l_q rfl rfl (q_moveI rfl) ?_
 refine l_q rfl rfl (q_addx rfl rfl (by first | decide | omega) (by first | decide | omega)) ?_
 refine l_q rfl rfl (q_assignI rfl) ?_
 refine l_nil ?_
 have hS78 := hS43.fr5; clear hS43
 have hS79 := hS78.fr3; clear hS78
 have hS80 := hS79.fr5; clear hS79
 have hS81 := hS80.fr5; clear hS80
 have hS82 := hS81.fr5; clear hS81
 have hS83 : St _ _ [_, _, _, .fz g29, _] _ := hS82.only 5; clear hS82
 refine hK22 _ _ (came (⟨(i + 1), k, kw, mb, inc, (cnt + 1), oa29, oc29, T29, kd, wa, wc, rs, da, dc, l, g29, (Q ++ [(numB nd inc cnt)]), ad43, cp43⟩) (by repeat' (first | exact Agree.refl _ _ | refine Agree.up ?_ rfl | refine Agree.hav2 ?_ rfl | refine Agree.ups2 ?_ rfl)) (by repeat' (first | exact trivial | refine ⟨by first | rfl | exact int_succ _ | assumption, ?_⟩)) ?_)
 exact ⟨⟨hS83, (by show i + 1 ≤ ps.length; omega), (by show i + 1 ≤ 60; omega), (by show inc + (cnt + 1) ≤ i + 1; omega), hT29, hd, hll, hR29_2, hrn, fun x hx => (by show x < numB nd inc (cnt + 1); have h : x ∈ Q ++ [(numB nd inc cnt)] := hx; rw [List.mem_append, List.mem_singleton] at h; rcases h with h | h; (have := hQ x h; omega); omega), (by show (Q ++ [_]).length = i + 1; rw [List.length_append, hQl]; rfl)⟩, by (show ps.length - (i + 1) < ps.length - i); omega⟩
 have hc26b := hc26
 try simp only [zbb] at hc26
 refine wp_exit ?_
 refine hK15 _ _ ?_
 refine wp_seq_k (fun K84 hK84 => ?_)
 refine wp_region_lit ?_
 refine l_e rfl (fun K hK => ?_)
 refine e_call (by kernel_rfl) (alive13_ok _) rfl (after_R hS22 (fun v85 w85 hv85 hS85 => ?_))
 clear hS22
 obtain rfl := hv85
 refine hK _ _ ?_; clear hK K
 refine l_q rfl rfl (q_assignB rfl) ?_
 refine l_nil ?_
 refine hK84 _ _ ?_
 refine wp_ret ?_
 refine c_ret1 rfl rfl ?_
 first | exact ⟨_, rfl, rfl, hS85.drop⟩ | exact ⟨_, rfl, congrArg Value.bool (decide_eq_true (by omega)), hS85.drop⟩
 have hg25b := hg25
 try simp only [zbb] at hg25
 refine l_off rfl rfl rfl hg25b ?_
 refine l_off rfl rfl rfl hg25b ?_
 refine l_q rfl rfl (q_pickF rfl hg25b rfl) ?_
 refine l_nil ?_
 refine hK24 _ _ ?_
 refine c_condF rfl rfl ?_
 refine wp_exit ?_
 refine hK15 _ _ ?_
 refine wp_seq_k (fun K87 hK87 => ?_)
 refine wp_region_lit ?_
 refine l_e rfl (fun K hK => ?_)
 refine e_call (by kernel_rfl) (alive13_ok _) rfl (after_R hS22 (fun v88 w88 hv88 hS88 => ?_))
 clear hS22
 obtain rfl := hv88
 refine hK _ _ ?_; clear hK K
 refine l_q rfl rfl (q_assignB rfl) ?_
 refine l_nil ?_
 refine hK87 _ _ ?_
 refine wp_ret ?_
 refine c_ret1 rfl rfl ?_
 first | exact ⟨_, rfl, rfl, hS88.drop⟩ | exact ⟨_, rfl, congrArg Value.bool (decide_eq_true (by omega)), hS88.drop⟩
 refine l_e rfl (fun K hK => ?_)
 refine e_call (by kernel_rfl) (open_arg nd hnd _ _) rfl (after_R hS5 (fun v89 w89 hv89 hS89 => ?_))
 clear hS5
 obtain rfl := hv89
 refine hK _ _ ?_; clear hK K
 refine l_q rfl rfl (q_move rfl) ?_
 refine l_q rfl rfl (q_extract rfl rfl) ?_
 refine l_q rfl rfl (q_extract rfl rfl) ?_
 refine l_q rfl rfl (q_assignP rfl) ?_
 refine l_q rfl rfl (q_assignI rfl) ?_
 refine l_nil ?_
 refine hK6 _ _ ?_
 refine wp_seq_k (fun K90 hK90 => ?_)
 refine wp_seq_k (fun K91 hK91 => ?_)
 refine wp_region_lit ?_
 refine l_q rfl rfl (q_moveI rfl) ?_
 refine l_q rfl rfl (q_neq rfl rfl) ?_
 refine l_q rfl rfl (q_moveB rfl) ?_
 refine l_off rfl rfl rfl (by decide) ?_
 refine l_off rfl rfl rfl (by decide) ?_
 refine l_q rfl rfl (q_pickT rfl (by decide) rfl) ?_
 refine l_nil ?_
 refine hK91 _ _ ?_
 refine c_condT rfl rfl ?_
 refine wp_seq_k (fun K93 hK93 => ?_)
 refine wp_region_lit ?_
 refine l_e rfl (fun K hK => ?_)
 refine e_call (by kernel_rfl) (alive13_ok _) rfl (after_R hS89 (fun v94 w94 hv94 hS94 => ?_))
 clear hS89
 obtain rfl := hv94
 refine hK _ _ ?_; clear hK K
 refine l_q rfl rfl (q_moveB rfl) ?_
 refine l_on rfl rfl rfl ?_
 refine l_q rfl rfl (q_moveI rfl) ?_
 refine l_on rfl rfl rfl ?_
 refine l_q rfl rfl (q_eql rfl rfl) ?_
 refine l_q rfl rfl (q_pickT rfl rfl rfl) ?_
 refine l_q rfl rfl (q_assignB rfl) ?_
 refine l_nil ?_
 refine hK93 _ _ ?_
 refine wp_ret ?_
 refine c_ret1 rfl rfl ?_
 first | exact ⟨_, rfl, rfl, hS94.drop⟩ | exact ⟨_, rfl, congrArg Value.bool (decide_eq_true (by omega)), hS94.drop⟩
end Go.Proofs.Yteojpdijmnpmgaa
namespace Go.Proofs.Yteojpdijmnpmgaa
open Go.ChangeShapes Go.WideShapes Go.ChangeAt Go.RowKit
set_option maxRecDepth 100000 in
theorem coordinatorNumbers_lifted (os : Os) (started : os.Started) (H : Type) (enc : TypeId × Value → H) :
    ReturnsInHanded {} Try.checked os 5 .any (Rows.coordinatorNumbersSpec.pre6 enc Try.prog Try.f5 Rows.coordinatorNumbersRow.domain false) (Rows.coordinatorNumbersSpec.post enc Try.prog Try.f5 false true false false) := by
  refine returnsInHanded_of_change (C := Try.checked) own7 started (by kernel_rfl) Try.func5
    (ChangeSpec.witness6 (enc := enc) (C := Try.checked) false ⟨#[], #[.int .i64 0, .slice none 0 0, .int .i64 0], []⟩ 8 (by kernel_rfl) (by kernel_rfl) (by kernel_rfl) (by kernel_rfl)) ?_
  intro W base args ds gs before hval0 hW hcnd _
  have hval : ∀ (j : Nat) t v, Try.f5.params[j]? = some t → args[j]? = some v → Value.okWide Try.prog W .any base t v := hval0
  have hW' := hW
  obtain ⟨p, q, hA0, hV0, rfl, hfz, hnd⟩ := hW
  have hA : DataW.TrodAll enc Try.prog W 0 (fun _ => true) true Try.f5.params.toList args.toList ds p := hA0
  have hV : DataW.TrodVars enc Try.prog W (fun _ => true) [] gs q := hV0
  rw [Try.params5] at hA hval
  obtain ⟨v0, v1, v2, d0, d1, d2, q0, q1, q2, rfl, rfl, rfl, h0, h1, h2⟩ := trodAll_three hA
  obtain ⟨rfl, rfl⟩ := trodVars_none hV
  obtain ⟨nd, rfl, rfl, rfl, wnd⟩ := open_int Try.underlying3 (hval 0 3 v0 rfl rfl) h0
  have bnd := bnd_i64 wnd
  obtain ⟨sa, sn, sc, rfl⟩ := okWide_slice Try.underlying53 (hval 1 53 v1 rfl rfl)
  obtain ⟨s, hsn, hsG, hsB, hsc⟩ := opn_bools h1
  subst hsn
  obtain ⟨keep, rfl, rfl, rfl, wkeep⟩ := open_int Try.underlying3 (hval 2 3 v2 rfl rfl) h2
  have bkeep := bnd_i64 wkeep
  clear hA0 hval0
  simp only [List.append_nil] at hW'
  have hlt1 : ∀ x ∈ q1, x.block < W.heap.size := fun x hx => by simpa using hW'.lt x (by simp [hx])
  have e1 : Rows.coordinatorNumbersSpec.fn H ([.lit (.int .i64 nd), d1, .lit (.int .i64 keep)] ++ []) = { results := [.lit (.bool true)], args := [.lit (.int .i64 nd), d1, .lit (.int .i64 keep)] } := by simp [Rows.coordinatorNumbersSpec]
  refine (numbers_ok nd s sa sc keep bkeep.1 W hsG).mono fun e W' hw0 => ?_
  obtain ⟨rr, he, hrr, hSt⟩ := hw0
  subst he hrr
  have hw : Below W.heap.size W W' := hSt.below
  refine ⟨_, rfl, _, _, _, [], [] ++ (q1 ++ []), [], hW', ?_, ?_, ?_, hw.frame _, fun h => by cases h⟩
  · rw [e1]; exact trodAll_mk1 (shut_bool Try.underlying4 true)
  · rw [e1]; exact trodAll_mk3 (shut_int Try.underlying3 wnd) (Below.trod laidOut7 (by kernel_rfl) (of_decide_eq_true (by kernel_rfl)) h1 hw hlt1) (shut_int Try.underlying3 wkeep)
  · rw [e1]; rfl

theorem coordinatorNumbers_holds : Rows.CoordinatorNumbersSaid :=
  OpenClaim.holds_of_wide 5 Try.f5 rfl rfl rfl rfl rfl rfl rfl ⟨rfl, rfl, rfl, rfl, rfl⟩ rfl rfl rfl rfl rfl (by kernel_rfl) Try.func5 (by kernel_rfl)
    (of_decide_eq_true (by kernel_rfl)) (by unfold Func.isWrapper; rw [if_neg (of_decide_eq_false (by kernel_rfl))]; exact ⟨rfl, rfl⟩)
    (fun os started H enc _ => coordinatorNumbers_lifted os started H enc)
#print axioms coordinatorNumbers_holds
end Go.Proofs.Yteojpdijmnpmgaa
