/- CoordinatorTicks: it asks again, for every input. No conditions. -/
import Derived.Test.YteojpdijmnpmgaaZTi5
import Derived.Test.YteojpdijmnpmgaaRows
import Derived.ProofKit
set_option linter.unusedVariables false
set_option linter.unusedSimpArgs false
namespace Go.Proofs.Yteojpdijmnpmgaa
open Go.RowKit
attribute [local irreducible] Oper.wp Sem.run Code.wp wpList wpAnyO callFunc execOp Calls
attribute [local irreducible] toU short rencs renc rowE encRow rightB zig unzig decRw rightL risB lastN bitsOf nodesTo readL recB ofL sends getT delT setT waL waE waN waR apL apE decF vot2 votesF doneF hearF tick1 tickT tickO tickQ replayF replayR rdB rdE scan nums hearG stopF askF numB staT pickN tkS
set_option maxHeartbeats 4000000 in
set_option maxRecDepth 100000 in
theorem ticks_ok (nd : Int) (ns : List Int) (na : Option Addr) (nc : Nat) (vt : Int) (hvt : -9223372036854775808 ≤ vt) (w : World) (hN : SlG (hw w) na (iv ns))  : Calls Try.prog 8 #[.int .i64 nd, .slice na ns.length nc, .int .i64 vt] w (PostR w fun v => v = .bool true) := by
 have hS := St.start w
 refine c_enter Try.func8 rfl rfl rfl ?_
 refine wp_seq_k (fun K1 hK1 => ?_)
 refine wp_region_lit ?_
 refine l_q rfl rfl (q_assignB rfl) ?_
 refine l_nil ?_
 refine hK1 _ _ ?_
 refine wp_seq_k (fun K2 hK2 => ?_)
 refine wp_region_lit ?_
 refine l_e rfl (fun K hK => ?_)
 refine e_call (by kernel_rfl) (dNew_ok _) rfl (after_N hS (fun v3 G3 w3 hv3 hS3 => ?_))
 clear hS
 obtain ⟨k3, rfl, rfl⟩ := hv3
 have hS4 : St _ _ [dk k3 none 0 [] 0 0] _ := hS3; clear hS3
 refine hK _ _ ?_; clear hK K
 have hS5 := hS4.fz0; clear hS4
 refine l_q rfl rfl (q_moveI rfl) ?_
 by_cases hnd : 0 ≤ nd ∧ nd < 16
 refine l_e rfl (fun K hK => ?_)
 have hS7 := hS5.fr1; clear hS5
 refine e_call (by kernel_rfl) (open_ok nd hnd _ _ _ [] 0 0 Bytes.nil (by first | omega | (simp only [zll] <;> omega)) (by first | omega | (simp only [zll] <;> omega)) _ (by first | omega | (simp only [zll] <;> omega)) (by rw [scan_nil]; exact Nat.zero_le _) (by rw [scan_nil]; show (replayR [] (0, [])).1 ≤ 65536; rw [replayR_nil]; exact Nat.zero_le _) _ (St.begin (Γ := [_, _]) hS7)) rfl (after_M (Γ1 := [_, _]) hS7 (fun v6 G6 w6 hv6 hS6 => ?_))
 clear hS7
 obtain ⟨k6, kw6, mb6, wa6, wc6, inc6, T6, rs6, da6, dc6, g6, rfl, rfl, hle6, hT6, hst6, hrs6, hrl6⟩ := hv6
 have hS8 : St _ _ [co k6 kw6 nd inc6 0 mb6 none [] 0 T6, wk kw6 k3 wa6 wc6 rs6, dk k3 da6 dc6 (recL ([].take (scan [] 0).2) [0, (inc6 : Int)]) 0 ((recL ([].take (scan [] 0).2) [0, (inc6 : Int)]).length), .fz g6] _ := hS6; clear hS6
 refine hK _ _ ?_; clear hK K
 have hsn0 : scan [] 0 = ([], 0) := scan_nil 0
 rw [hsn0, replayR_nil] at hst6
 have hi0 : inc6 = 0 := congrArg Prod.fst hst6
 have hT0 : T6 = [] := abs_nil (congrArg Prod.snd hst6)
 rw [hsn0] at hrl6
 subst hi0 hT0
 obtain ⟨l0, hl0e⟩ : ∃ l0, l0 = recL [] [0, 0] := ⟨_, rfl⟩
 have hS9 : St _ _ [co k6 kw6 nd 0 0 mb6 none [] 0 [], _, dk k3 da6 dc6 l0 0 l0.length, .fz g6] _ := hS8.cast (by rw [hl0e, hsn0]; rfl); clear hS8
 obtain ⟨hl0, hd0, hlen0⟩ := disk0 hl0e
 have hrl6' : rs6.length ≤ 1 := hrl6
 refine l_q rfl rfl (q_move rfl) ?_
 refine l_q rfl rfl (q_extract rfl rfl) ?_
 refine l_q rfl rfl (q_extract rfl rfl) ?_
 refine l_q rfl rfl (q_assignP rfl) ?_
 refine l_q rfl rfl (q_assignI rfl) ?_
 refine l_nil ?_
 refine hK2 _ _ ?_
 refine wp_seq_k (fun K10 hK10 => ?_)
 refine wp_seq_k (fun K11 hK11 => ?_)
 refine wp_region_lit ?_
 refine l_q rfl rfl (q_moveI rfl) ?_
 refine l_q rfl rfl (q_neq rfl rfl) ?_
 refine l_q rfl rfl (q_moveB rfl) ?_
 refine l_on rfl rfl (by decide) ?_
 refine l_q rfl rfl (q_moveP rfl) ?_
 refine l_on rfl rfl (by decide) ?_
 refine l_q rfl rfl (q_peq rfl (by kernel_rfl)) ?_
 refine l_q rfl rfl (q_pickF rfl (by decide) rfl) ?_
 refine l_q rfl rfl (q_moveB rfl) ?_
 refine l_on rfl rfl rfl ?_
 refine l_q rfl rfl (q_moveS rfl) ?_
 refine l_on rfl rfl rfl ?_
 refine l_q rfl rfl (q_lenSl (e := 3) rfl (by kernel_rfl)) ?_
 refine l_on rfl rfl rfl ?_
 refine l_q rfl rfl (q_gtr rfl rfl) ?_
 refine l_q rfl rfl (q_pickF rfl rfl rfl) ?_
 refine l_nil ?_
 refine hK11 _ _ ?_
 refine c_cond rfl (fun hc12 => ?_) (fun hc12 => ?_)
 have hc12b := hc12
 try simp only [zbb] at hc12
 refine wp_seq_k (fun K13 hK13 => ?_)
 refine wp_region_lit ?_
 refine l_e rfl (fun K hK => ?_)
 refine e_call (by kernel_rfl) (alive13_ok _) rfl (after_R hS9 (fun v14 w14 hv14 hS14 => ?_))
 clear hS9
 obtain rfl := hv14
 refine hK _ _ ?_; clear hK K
 refine l_q rfl rfl (q_moveB rfl) ?_
 refine l_on rfl rfl rfl ?_
 refine l_q rfl rfl (q_moveI rfl) ?_
 refine l_on rfl rfl rfl ?_
 refine l_q rfl rfl (q_eql rfl rfl) ?_
 refine l_on rfl rfl rfl ?_
 refine l_q rfl rfl (q_moveB rfl) ?_
 refine l_off rfl rfl rfl (by decide) ?_
 refine l_off rfl rfl rfl (by decide) ?_
 refine l_on rfl rfl rfl ?_
 refine l_q rfl rfl (q_pickT rfl (by decide) rfl) ?_
 refine l_q rfl rfl (q_pickT rfl rfl rfl) ?_
 refine l_q rfl rfl (q_assignB rfl) ?_
 refine l_nil ?_
 refine hK13 _ _ ?_
 refine wp_ret ?_
 refine c_ret1 rfl rfl ?_
 first | exact ⟨_, rfl, rfl, hS14.drop⟩ | exact ⟨_, rfl, congrArg Value.bool (decide_eq_true (by omega)), hS14.drop⟩
 have hc12b := hc12
 try simp only [zbb] at hc12
 refine wp_skip ?_
 refine hK10 _ _ ?_
 refine wp_seq_k (fun K15 hK15 => ?_)
 refine wp_region_lit ?_
 refine l_q rfl rfl (q_moveP rfl) ?_
 refine l_e rfl (fun K hK => ?_)
 have hS17 := hS9.fr3; clear hS9
 have hS18 := hS17.fr1; clear hS17
 refine e_call (by kernel_rfl) (begin_ok k6 kw6 nd 0 0 mb6 none [] 0 [] TOk.nil g6 LOk.nil (by first | omega | (simp only [zll] <;> omega)) nd (by first | omega | (simp only [zll] <;> omega)) (by first | omega | (simp only [zll] <;> omega)) hnd (numB0 _).symm _ (St.begin (Γ := [_, _]) hS18)) rfl (after_M (Γ1 := [_, _]) hS18 (fun v16 G16 w16 hv16 hS16 => ?_))
 clear hS18
 obtain ⟨oa16, oc16, O16, T16, g16, rfl, rfl, hle16, hO16, hT16, hab16, hOe16⟩ := hv16
 have hS19 : St _ _ [co k6 kw6 nd 0 (0 + 1) mb6 oa16 O16 oc16 T16, .fz g16, _, _] _ := hS16; clear hS16
 have hR16_2 := RsOk.mono hrs6 hle16
 refine hK _ _ ?_; clear hK K
 obtain ⟨b16, eN16⟩ := abs_one (hab16.trans (set_nil _ _))
 subst eN16
 have eM16 := los_nil hOe16
 subst eM16
 refine l_q rfl rfl (q_move rfl) ?_
 refine l_q rfl rfl (q_extract rfl rfl) ?_
 refine l_q rfl rfl (q_extract rfl rfl) ?_
 refine l_q rfl rfl (q_assignI rfl) ?_
 refine l_q rfl rfl (q_assignI rfl) ?_
 refine l_nil ?_
 refine hK15 _ _ ?_
 refine wp_seq_k (fun K20 hK20 => ?_)
 refine wp_seq_k (fun K21 hK21 => ?_)
 refine wp_region_lit ?_
 refine l_q rfl rfl (q_moveP rfl) ?_
 refine l_q rfl rfl (q_moveI rfl) ?_
 refine l_q rfl rfl (q_moveS rfl) ?_
 by_cases hof : (ofL ns).2 = true
 refine l_e rfl (fun K hK => ?_)
 refine e_call (by kernel_rfl) (ask_any k6 kw6 nd 0 (0 + 1) mb6 oa16 [] oc16 [(nd, b16, zeroTx)] hT16 g16 hO16 (by first | omega | (simp only [zll] <;> omega)) nd ns ns.length (by first | omega | (simp only [zll] <;> omega)) (by first | omega | (simp only [zll] <;> omega)) na nc _ _ (St.rogB (Γ1 := [_, _]) hS19) hN (St.begin (Γ := [_, _]) hS19)) rfl (after_M (Γ1 := [_, _]) hS19 (fun v22 G22 w22 hv22 hS22 => ?_))
 clear hS19
 obtain ⟨a22, oa22, oc22, O22, T22, g22, rfl, rfl, hle22, hO22, hT22, hE22⟩ := hv22
 have hS23 : St _ _ [co k6 kw6 nd 0 (0 + 1) mb6 oa22 O22 oc22 T22, .fz g22, _, _] _ := hS22; clear hS22
 have hR22_2 := RsOk.mono hR16_2 hle22
 refine hK _ _ ?_; clear hK K
 obtain ⟨u, hu⟩ : ∃ u, ofL ns = (u, true) := ⟨_, Prod.ext rfl hof⟩
 obtain ⟨hun, hu0, hu1, hnn, hnl, hnp, hnx⟩ := ofL_facts hu
 obtain ⟨ea22, eT22, eO22⟩ := val3 hE22 (ask_one (u := u) rfl rfl hu)
 subst ea22
 have hTT22 : absT T22 = tkS nd u (bitsOf (ns.take 0)) 0 := eT22.trans (tk_start hu0).symm
 have hol22 : O22.length ≤ 16 := by rw [los_len eO22, List.length_append, sends_length]; exact hnl0 hun hnl
 refine l_q rfl rfl (q_neq rfl rfl) ?_
 refine l_nil ?_
 refine hK21 _ _ ?_
 refine c_condF rfl (by decide) ?_
 refine wp_skip ?_
 refine hK20 _ _ ?_
 refine wp_seq_k (fun K25 hK25 => ?_)
 refine wp_region_lit ?_
 refine l_q rfl rfl (q_moveP rfl) ?_
 refine l_e rfl (fun K hK => ?_)
 refine e_call (by kernel_rfl) (out_ok k6 kw6 nd 0 (0 + 1) mb6 oa22 O22 oc22 T22 hT22 g22 hO22 (by first | omega | (simp only [zll] <;> omega)) _ (St.begin (Γ := [_, _]) hS23)) rfl (after_M (Γ1 := [_, _]) hS23 (fun v26 G26 w26 hv26 hS26 => ?_))
 clear hS23
 obtain ⟨rfl, rfl⟩ := hv26
 have hS27 : St _ _ [.ow 42 5 oa22 O22.length oc22 (List.flatMap lo O22), co k6 kw6 nd 0 (0 + 1) mb6 none [] 0 T22, .fz g22, _, _] _ := hS26; clear hS26
 refine hK _ _ ?_; clear hK K
 refine l_nil ?_
 refine hK25 _ _ ?_
 refine wp_seq_k (fun K28 hK28 => ?_)
 refine wp_region_lit ?_
 refine l_q rfl rfl (q_moveI rfl) ?_
 refine l_q rfl rfl (q_moveS rfl) ?_
 refine l_q rfl rfl (q_lenSl (e := 3) rfl (by kernel_rfl)) ?_
 refine l_q rfl rfl (q_addx rfl rfl (by first | decide | omega) (by first | decide | omega)) ?_
 refine l_e rfl (fun K hK => ?_)
 refine e_callA (by kernel_rfl) (pick13_ok vt (ns.length + 1) (by first | omega | (simp only [zll] <;> omega)) (by first | omega | (simp only [zll] <;> omega)) _) (show _ = [.int .i64 vt, .int .i64 (((ns.length : Nat) : Int) + (1 : Int))] from rfl) (by rw [show (((ns.length + 1) : Nat) : Int) = (((ns.length : Nat) : Int) + (1 : Int)) from by omega]) (after_R hS27 (fun v29 w29 hv29 hS29 => ?_))
 clear hS27
 obtain rfl := hv29
 have hpk29 := pickN_lt vt (n := (ns.length + 1)) (by omega)
 refine hK _ _ ?_; clear hK K
 obtain ⟨k, hk⟩ : ∃ k, k = pickN vt (ns.length + 1) := ⟨_, rfl⟩
 rw [← hk]
 have hkl : k < ns.length + 1 := by rw [hk]; exact pickN_lt _ (by omega)
 refine l_q rfl rfl (q_assignI rfl) ?_
 refine l_nil ?_
 refine hK28 _ _ ?_
 refine wp_seq_k (fun K30 hK30 => ?_)
 refine wp_seq_k (fun K31 hK31 => ?_)
 refine wp_region_lit ?_
 refine l_q rfl rfl (q_assignI rfl) ?_
 refine l_nil ?_
 refine hK31 _ _ ?_
 refine wp_block ?_
 have hk1 : k ≤ ns.length := by omega
 have hS32 := hS29.fr2; clear hS29
 have hS33 := hS32.fr4; clear hS32
 have hS34 := hS33.fr4; clear hS33
 have hS35 := hS34.fr4; clear hS34
 have hS36 : St _ _ [_, _, _, .fz g22] _ := hS35.only 4; clear hS35
 refine c_loop (τ := Nat × (List (Int × Nat × Tx)) × (Option Addr) × Nat × (Option Addr) × Nat × (List Rc) × (Option Addr) × Nat × (List Nat) × Nat × Gh) [(12, 12), (65, 78)] (fun x => (fun (i : Nat) (T : List (Int × Nat × Tx)) (oa : Option Addr) (oc : Nat) (wa : Option Addr) (wc : Nat) (rs : List Rc) (da : Option Addr) (dc : Nat) (l : List Nat) (s : Nat) (g : Gh) => [(12, .int .i64 (i : Int))]) x.1 x.2.1 x.2.2.1 x.2.2.2.1 x.2.2.2.2.1 x.2.2.2.2.2.1 x.2.2.2.2.2.2.1 x.2.2.2.2.2.2.2.1 x.2.2.2.2.2.2.2.2.1 x.2.2.2.2.2.2.2.2.2.1 x.2.2.2.2.2.2.2.2.2.2.1 x.2.2.2.2.2.2.2.2.2.2.2) (fun x w' => (fun (i : Nat) (T : List (Int × Nat × Tx)) (oa : Option Addr) (oc : Nat) (wa : Option Addr) (wc : Nat) (rs : List Rc) (da : Option Addr) (dc : Nat) (l : List Nat) (s : Nat) (g : Gh) => St w (fun _ => False) [co k6 kw6 nd 0 (0 + 1) mb6 oa [] oc T, wk kw6 k3 wa wc rs, dk k3 da dc l 0 s, .fz g] w' ∧ i ≤ k ∧ TOk T ∧ absT T = tkS nd u (bitsOf (ns.take i)) 0 ∧ Gle g22 g ∧ RsOk g rs ∧ rs.length ≤ 2 + i ∧ Bytes l ∧ s ≤ l.length ∧ l.length ≤ 3382 * (1 + i)) x.1 x.2.1 x.2.2.1 x.2.2.2.1 x.2.2.2.2.1 x.2.2.2.2.2.1 x.2.2.2.2.2.2.1 x.2.2.2.2.2.2.2.1 x.2.2.2.2.2.2.2.2.1 x.2.2.2.2.2.2.2.2.2.1 x.2.2.2.2.2.2.2.2.2.2.1 x.2.2.2.2.2.2.2.2.2.2.2) (fun x => (fun (i : Nat) (T : List (Int × Nat × Tx)) (oa : Option Addr) (oc : Nat) (wa : Option Addr) (wc : Nat) (rs : List Rc) (da : Option Addr) (dc : Nat) (l : List Nat) (s : Nat) (g : Gh) => k - i) x.1 x.2.1 x.2.2.1 x.2.2.2.1 x.2.2.2.2.1 x.2.2.2.2.2.1 x.2.2.2.2.2.2.1 x.2.2.2.2.2.2.2.1 x.2.2.2.2.2.2.2.2.1 x.2.2.2.2.2.2.2.2.2.1 x.2.2.2.2.2.2.2.2.2.2.1 x.2.2.2.2.2.2.2.2.2.2.2) (⟨0, T22, none, 0, wa6, wc6, rs6, da6, dc6, l0, l0.length, g22⟩) ?_ (by repeat' (first | exact trivial | refine ⟨by first | rfl | exact int_succ _ | assumption, ?_⟩)) (fun x37 j37 w37 hJ37 K37 hK37 => ?_)
 exact ⟨hS36, Nat.zero_le _, hT22, hTT22, Gle.refl _, hR22_2, (by first | omega | (dsimp only; omega)), hl0, Nat.le_refl _, hlen0⟩
 obtain ⟨i, T, oa, oc, wa, wc, rs, da, dc, l, s, g⟩ := x37
 obtain ⟨hS37, hi, hT, hTT, hg0, hR, hrn, hl, hsl, hll⟩ := hJ37
 try dsimp only at hS37 hi hT hTT hg0 hR hrn hl hsl hll ⊢
 refine wp_seq_k (fun K38 hK38 => ?_)
 refine wp_seq_k (fun K39 hK39 => ?_)
 refine wp_region_lit ?_
 refine l_q rfl rfl (q_moveI rfl) ?_
 refine l_q rfl rfl (q_moveI rfl) ?_
 refine l_q rfl rfl (q_lss rfl rfl) ?_
 refine l_nil ?_
 refine hK39 _ _ ?_
 refine c_cond rfl (fun hc40 => ?_) (fun hc40 => ?_)
 have hc40b := hc40
 try simp only [zbb] at hc40
 refine wp_skip ?_
 refine hK38 _ _ ?_
 refine wp_seq_k (fun K41 hK41 => ?_)
 refine wp_block ?_
 refine wp_region_lit ?_
 refine l_q rfl rfl (q_moveP rfl) ?_
 refine l_q rfl rfl (q_moveS rfl) ?_
 refine l_q rfl rfl (q_moveI rfl) ?_
 refine l_q rfl rfl (q_ixG (e := 3) (m := 1) (j := i) rfl rfl (by kernel_rfl) (by kernel_rfl) (by first | rfl | omega) (by omega) hN (by rw [iv_len]; first | omega | (simp only [zll] <;> omega))) ?_
 obtain ⟨x42, hx42⟩ : ∃ x, (ns)[i]? = some x := ⟨_, List.getElem?_eq_getElem (by first | omega | (simp only [zll] <;> omega) | (simp <;> omega))⟩
 refine l_q rfl rfl (q_load1 rfl (by kernel_rfl) (SlG.cell (hN.mono hS37.base) (Gle.refl _) (at1 (iv_at hx42)))) ?_
 have hx0 := hnx x42 (List.mem_of_getElem? hx42)
 obtain ⟨m, hm⟩ : ∃ m : Nat, x42 = (m : Int) := ⟨x42.toNat, by omega⟩
 subst hm
 obtain ⟨hny, hbu, hm16, hbs⟩ := not_yet hu hx42
 have hbn := bits_take_ne hu (k := i) (by omega)
 refine l_q rfl rfl (q_moveI rfl) ?_
 refine l_q rfl rfl (q_moveI rfl) ?_
 refine l_q rfl rfl (q_build (ps := [(0, 1), (1, 1), (2, 1), (3, 1), (4, 1)]) (zv := .agg #[.int .i64 0, .int .i64 0, .int .i64 0, .int .i64 0, .slice none 0 0]) (by kernel_rfl) (by kernel_rfl) rfl (by repeat' (first | exact trivial | refine ⟨fun _ => by first | rfl | assumption | exact one_if (by assumption), ?_⟩ | refine ⟨fun ⟨_, h⟩ => by simp at h, ?_⟩)) rfl) ?_
 refine l_e rfl (fun K hK => ?_)
 refine e_call (by kernel_rfl) (hear_any k6 kw6 nd 0 (0 + 1) mb6 oa [] oc T hT g LOk.nil (by first | omega | (simp only [zll] <;> omega)) k3 wa wc rs da dc l 0 s (by first | omega | (simp only [zll] <;> omega)) hl (by first | omega | (simp only [zll] <;> omega)) (by first | omega | (simp only [zll] <;> omega)) hR (Lr.mk (4 : Int) (m : Int) nd nd []) none 0 0 rfl (by first | omega | (simp only [zll] <;> omega)) _ _ ((fun _ _ e => by cases e) : Rog [_, _, _, _] _ (fun _ => none)) SlG.nil (St.begin (Γ := [_, _, _, _]) hS37)) rfl (after_M (Γ1 := [_, _, _, _]) hS37 (fun v43 G43 w43 hv43 hS43 => ?_))
 clear hS37
 obtain ⟨a43, oa43, oc43, O43, T43, wa43, wc43, rs43, da43, dc43, l43, s43, g43, rfl, rfl, hle43, hO43, hT43, hE43, hrs43, hrl43, hGr43⟩ := hv43
 have hS44 : St _ _ [co k6 kw6 nd 0 (0 + 1) mb6 oa43 O43 oc43 T43, wk kw6 k3 wa43 wc43 rs43, dk k3 da43 dc43 l43 0 s43, .fz g43] _ := hS43; clear hS43
 have hGs43 := hGr43.2.1; have hGl43 := hGr43.2.2.1; have hGm43 := hGr43.2.2.2
 refine hK _ _ ?_; clear hK K
 rw [hTT] at hE43
 obtain ⟨ea43, eT43, eO43, el43, es43⟩ := val5 hE43 (vote_read hbn hm16 hnd hbu hny _ _ _)
 subst ea43
 rw [hbs] at eT43
 have hTT43 := eT43.symm.symm
 have eM43 := los_nil eO43
 subst eM43
 refine l_nil ?_
 refine hK41 _ _ ?_
 refine wp_region_lit ?_
 refine l_q rfl rfl (q_moveI rfl) ?_
 refine l_q rfl rfl (q_addx rfl rfl (by first | decide | omega) (by first | decide | omega)) ?_
 refine l_q rfl rfl (q_assignI rfl) ?_
 refine l_nil ?_
 refine hK37 _ _ (came (⟨(i + 1), T43, oa43, oc43, wa43, wc43, rs43, da43, dc43, l43, s43, g43⟩) (by repeat' (first | exact Agree.refl _ _ | refine Agree.up ?_ rfl | refine Agree.hav2 ?_ rfl | refine Agree.ups2 ?_ rfl)) (by repeat' (first | exact trivial | refine ⟨by first | rfl | exact int_succ _ | assumption, ?_⟩)) ?_)
 exact ⟨⟨hS44, (by show i + 1 ≤ k; omega), hT43, hTT43, hg0.trans hle43, hrs43, (by first | omega | (dsimp only; omega)), hGr43.1, (by first | omega | (dsimp only; omega)), (by first | omega | (dsimp only; omega))⟩, by (show k - (i + 1) < k - i); omega⟩
 have hc40b := hc40
 try simp only [zbb] at hc40
 refine wp_exit ?_
 refine hK30 _ _ ?_
 refine wp_seq_k (fun K45 hK45 => ?_)
 refine wp_region_lit ?_
 refine l_q rfl rfl (q_moveS rfl) ?_
 refine l_q rfl rfl (q_lenSl (e := 3) rfl (by kernel_rfl)) ?_
 refine l_q rfl rfl (q_moveI rfl) ?_
 refine l_q rfl rfl (q_subx rfl rfl (by first | decide | omega) (by first | decide | omega)) ?_
 refine l_q rfl rfl (q_assignI rfl) ?_
 refine l_nil ?_
 refine hK45 _ _ ?_
 refine wp_seq_k (fun K46 hK46 => ?_)
 refine wp_seq_k (fun K47 hK47 => ?_)
 have hik : i = k := by omega
 have hTTk : absT T = tkS nd u (bitsOf (ns.take k)) 0 := by rw [← hik]; exact hTT
 refine wp_region_lit ?_
 refine l_q rfl rfl (q_assignI rfl) ?_
 refine l_nil ?_
 refine hK47 _ _ ?_
 refine wp_block ?_
 have hS48 := hS37.fr3; clear hS37
 have hS49 := hS48.fr1; clear hS48
 have hS50 : St _ _ [co k6 kw6 nd 0 (0 + 1) mb6 oa [] oc T, .fz g] _ := hS49.only 2; clear hS49
 refine c_loop (τ := Nat × (List (Int × Nat × Tx)) × (Option Addr) × Nat × Gh) [(6, 6), (14, 17), (83, 135)] (fun x => (fun (i : Nat) (T : List (Int × Nat × Tx)) (oa2 : Option Addr) (oc2 : Nat) (g2 : Gh) => [(14, .int .i64 (i : Int))]) x.1 x.2.1 x.2.2.1 x.2.2.2.1 x.2.2.2.2) (fun x w' => (fun (i : Nat) (T : List (Int × Nat × Tx)) (oa2 : Option Addr) (oc2 : Nat) (g2 : Gh) => St w (fun _ => False) [co k6 kw6 nd 0 (0 + 1) mb6 oa2 [] oc2 T, .fz g2] w' ∧ 1 ≤ i ∧ i ≤ 16 ∧ TOk T ∧ absT T = tkS nd u (bitsOf (ns.take k)) ((i - 1) % 5)) x.1 x.2.1 x.2.2.1 x.2.2.2.1 x.2.2.2.2) (fun x => (fun (i : Nat) (T : List (Int × Nat × Tx)) (oa2 : Option Addr) (oc2 : Nat) (g2 : Gh) => 16 - i) x.1 x.2.1 x.2.2.1 x.2.2.2.1 x.2.2.2.2) (⟨1, T, oa, oc, g⟩) ?_ (by repeat' (first | exact trivial | refine ⟨by first | rfl | exact int_succ _ | assumption, ?_⟩)) (fun x51 j51 w51 hJ51 K51 hK51 => ?_)
 exact ⟨hS50, Nat.le_refl _, (by show 1 ≤ 16; decide), hT, hTTk⟩
 obtain ⟨i, T, oa2, oc2, g2⟩ := x51
 obtain ⟨hS51, hi1, hi, hT, hTT⟩ := hJ51
 try dsimp only at hS51 hi1 hi hT hTT ⊢
 refine wp_seq_k (fun K52 hK52 => ?_)
 refine wp_seq_k (fun K53 hK53 => ?_)
 refine wp_region_lit ?_
 refine l_q rfl rfl (q_moveI rfl) ?_
 refine l_q rfl rfl (q_leq rfl rfl) ?_
 refine l_nil ?_
 refine hK53 _ _ ?_
 refine c_cond rfl (fun hc54 => ?_) (fun hc54 => ?_)
 have hc54b := hc54
 try simp only [zbb] at hc54
 refine wp_skip ?_
 refine hK52 _ _ ?_
 refine wp_seq_k (fun K55 hK55 => ?_)
 refine wp_block ?_
 refine wp_seq_k (fun K56 hK56 => ?_)
 have hTl : T.length ≤ 1 := by rw [← absT_len, hTT]; exact tk_len _ _ _ _
 refine wp_region_lit ?_
 refine l_q rfl rfl (q_moveP rfl) ?_
 refine l_e rfl (fun K hK => ?_)
 refine e_call (by kernel_rfl) (tick_ok k6 kw6 nd 0 (0 + 1) mb6 oa2 [] oc2 T hT g2 LOk.nil (by first | omega | (simp only [zll] <;> omega)) (by first | omega | (simp only [zll] <;> omega)) _ (St.begin (Γ := [_, _]) hS51)) rfl (after_M (Γ1 := [_, _]) hS51 (fun v57 G57 w57 hv57 hS57 => ?_))
 clear hS51
 obtain ⟨oa57, oc57, O57, T57, g57, rfl, rfl, hle57, hO57, hT57, hab57, hOe57⟩ := hv57
 have hS58 : St _ _ [co k6 kw6 nd 0 (0 + 1) mb6 oa57 O57 oc57 T57, .fz g57] _ := hS57; clear hS57
 refine hK _ _ ?_; clear hK K
 rw [hTT] at hab57 hOe57
 rw [tick_tk.1] at hab57
 rw [tick_tk.2] at hOe57
 have hab57 : absT T57 = tkS nd u (bitsOf (ns.take k)) (if (i - 1) % 5 + 1 < 5 then (i - 1) % 5 + 1 else 0) := hab57
 have hOe57 : O57.map Lo.l = if bitsOf (ns.take k) = u ∨ (i - 1) % 5 + 1 < 5 then [] else sends 1 nd nd (nodesTo (u ^^^ (u &&& (0 ||| bitsOf (ns.take k)))) 16) u := hOe57
 rw [left_nodes hu] at hOe57
 have hlen57 := los_len hOe57
 have hlw57 : O57.length ≤ 16 := by rw [hlen57]; split; exact Nat.zero_le _; rw [sends_length, List.length_drop]; omega
 refine l_nil ?_
 refine hK56 _ _ ?_
 refine wp_seq_k (fun K59 hK59 => ?_)
 refine wp_region_lit ?_
 refine l_q rfl rfl (q_moveP rfl) ?_
 refine l_e rfl (fun K hK => ?_)
 refine e_call (by kernel_rfl) (out_ok k6 kw6 nd 0 (0 + 1) mb6 oa57 O57 oc57 T57 hT57 g57 hO57 (by first | omega | (simp only [zll] <;> omega)) _ (St.begin (Γ := [_, _]) hS58)) rfl (after_M (Γ1 := [_, _]) hS58 (fun v60 G60 w60 hv60 hS60 => ?_))
 clear hS58
 obtain ⟨rfl, rfl⟩ := hv60
 have hS61 : St _ _ [.ow 42 5 oa57 O57.length oc57 (List.flatMap lo O57), co k6 kw6 nd 0 (0 + 1) mb6 none [] 0 T57, .fz g57] _ := hS60; clear hS60
 refine hK _ _ ?_; clear hK K
 refine l_q rfl rfl (q_assignS rfl) ?_
 refine l_nil ?_
 refine hK59 _ _ ?_
 refine wp_seq_k (fun K62 hK62 => ?_)
 refine wp_region_lit ?_
 refine l_q rfl rfl (q_assignI rfl) ?_
 refine l_nil ?_
 refine hK62 _ _ ?_
 refine wp_seq_k (fun K63 hK63 => ?_)
 refine wp_seq_k (fun K64 hK64 => ?_)
 refine wp_region_lit ?_
 refine l_q rfl rfl (q_moveI rfl) ?_
 refine l_q rfl rfl (q_remN (a := i) (b := 5) rfl rfl (by first | decide | omega)) ?_
 refine l_q rfl rfl (q_eql rfl rfl) ?_
 refine l_nil ?_
 refine hK64 _ _ ?_
 refine c_cond rfl (fun hc65 => ?_) (fun hc65 => ?_)
 have hc65b := hc65
 try simp only [zbb] at hc65
 have hlq : O57.length = ns.length - k := by
   rw [hlen57]
   split
   · rename_i hc; rcases hc with hc | hc; (by_cases hkn : k < ns.length; exact absurd hc (bits_take_ne hu hkn); (show 0 = _; omega)); omega
   · rw [sends_length, List.length_drop]
 refine wp_region_lit ?_
 refine l_q rfl rfl (q_moveI rfl) ?_
 refine l_q rfl rfl (q_assignI rfl) ?_
 refine l_nil ?_
 refine hK63 _ _ ?_
 refine wp_seq_k (fun K66 hK66 => ?_)
 refine wp_seq_k (fun K67 hK67 => ?_)
 refine wp_region_lit ?_
 refine l_q rfl rfl (q_moveS rfl) ?_
 refine l_q rfl rfl (q_lenSl (e := 42) rfl (by kernel_rfl)) ?_
 refine l_q rfl rfl (q_moveI rfl) ?_
 refine l_q rfl rfl (q_neq rfl rfl) ?_
 refine l_nil ?_
 refine hK67 _ _ ?_
 refine c_cond rfl (fun hc68 => ?_) (fun hc68 => ?_)
 have hc68b := hc68
 try simp only [zbb] at hc68
 exfalso; first | omega | exact hc68 trivial | exact absurd hc68 (by decide)
 have hc68b := hc68
 try simp only [zbb] at hc68
 refine wp_skip ?_
 refine hK66 _ _ ?_
 refine wp_seq_k (fun K69 hK69 => ?_)
 refine wp_region_lit ?_
 refine l_q rfl rfl (q_assignI rfl) ?_
 refine l_nil ?_
 refine hK69 _ _ ?_
 refine wp_block ?_
 refine c_loop (τ := Nat) [(6, 6), (17, 17), (99, 135)] (fun x => (fun (j : Nat) => [(17, .int .i64 (j : Int))]) x) (fun x w' => (fun (j : Nat) => St w (fun _ => False) [.ow 42 5 oa57 O57.length oc57 (List.flatMap lo O57), co k6 kw6 nd 0 (0 + 1) mb6 none [] 0 T57, .fz g57] w' ∧ j ≤ O57.length) x) (fun x => (fun (j : Nat) => O57.length - j) x) (0) ?_ (by repeat' (first | exact trivial | refine ⟨by first | rfl | exact int_succ _ | assumption, ?_⟩)) (fun j j70 w70 hJ70 K70 hK70 => ?_)
 exact ⟨hS61, Nat.zero_le _⟩
 obtain ⟨hS70, hj⟩ := hJ70
 try dsimp only at hS70 hj ⊢
 refine wp_seq_k (fun K71 hK71 => ?_)
 refine wp_seq_k (fun K72 hK72 => ?_)
 refine wp_region_lit ?_
 refine l_q rfl rfl (q_moveI rfl) ?_
 refine l_q rfl rfl (q_moveS rfl) ?_
 refine l_q rfl rfl (q_lenSl (e := 42) rfl (by kernel_rfl)) ?_
 refine l_q rfl rfl (q_lss rfl rfl) ?_
 refine l_nil ?_
 refine hK72 _ _ ?_
 refine c_cond rfl (fun hc73 => ?_) (fun hc73 => ?_)
 have hc73b := hc73
 try simp only [zbb] at hc73
 refine wp_skip ?_
 refine hK71 _ _ ?_
 refine wp_seq_k (fun K74 hK74 => ?_)
 refine wp_block ?_
 refine wp_seq_k (fun K75 hK75 => ?_)
 refine r_any (by kernel_rfl) hS70 (fun w76 hS76 => ?_)
 clear hS70
 refine o_pure (i := 0) (fun _ _ => trivial) rfl rfl (by kernel_rfl) (goes0 rfl) (QOk.then (QOk.inBlock (QOk.then (QOk.then (QOk.inBlock (QOk.inBlock (QOk.then (QOk.then (QOk.inBlock (QOk.then QOk.body)))))))))) (fun w => q_moveS rfl) ?_
 refine o_pure (i := 1) (fun _ _ => trivial) rfl rfl (by kernel_rfl) (goes0 rfl) (QOk.then (QOk.inBlock (QOk.then (QOk.then (QOk.inBlock (QOk.inBlock (QOk.then (QOk.then (QOk.inBlock (QOk.then QOk.body)))))))))) (fun w => q_moveI rfl) ?_
 refine o_pure (i := 2) (fun _ _ => trivial) rfl rfl (by kernel_rfl) (goes0 rfl) (QOk.then (QOk.inBlock (QOk.then (QOk.then (QOk.inBlock (QOk.inBlock (QOk.then (QOk.then (QOk.inBlock (QOk.then QOk.body)))))))))) (fun w => q_ixG (e := 42) (m := 5) (j := j) rfl rfl (by kernel_rfl) (by kernel_rfl) (by first | rfl | omega) (by omega) (hS76.owG (i := 0) rfl) (by rw [rows_len (c := lo) (m := 5) (fun _ => rfl)]; first | omega | (simp only [zll] <;> omega))) ?_
 refine o_pure (i := 3) (fun _ _ => trivial) rfl rfl (by kernel_rfl) (goes0 rfl) (QOk.then (QOk.inBlock (QOk.then (QOk.then (QOk.inBlock (QOk.inBlock (QOk.then (QOk.then (QOk.inBlock (QOk.then QOk.body)))))))))) (fun w => q_fieldG (ft := 40) (o := 0) rfl (by kernel_rfl)) ?_
 obtain ⟨x77, hx77⟩ : ∃ x, (O57)[j]? = some x := ⟨_, List.getElem?_eq_getElem (by first | omega | (simp only [zll] <;> omega) | (simp <;> omega))⟩
 have hlx_x77 := (hO57 x77 (List.mem_of_getElem? hx77)).2
 refine o_held (i := 4) [5, 6, 7, 8, 9, 10, 11, 12, 13, 14, 15, 16, 17, 18, 19, 20, 21, 22, 23, 24, 25, 26, 27, 28, 29, 30] (fun _ _ => trivial) rfl rfl (by kernel_rfl) (goes0 rfl) (QOk.then (QOk.inBlock (QOk.then (QOk.then (QOk.inBlock (QOk.inBlock (QOk.then (QOk.then (QOk.inBlock (QOk.then QOk.body)))))))))) (q_load1 rfl (by kernel_rfl) (SlG.cell (hS76.owG (i := 0) rfl) (Gle.refl _) (row_at hx77 (c := lo) (m := 5) (fun _ => rfl) (j := 0) rfl))) ?_
 have hlx := los_at hOe57 hx77
 rw [if_neg (by intro hc; rw [if_pos hc] at hlen57; have : O57.length = 0 := hlen57; omega)] at hlx
 obtain ⟨y, hy, hye⟩ := sends_get hlx
 have hlk : x77.l.k = 1 := by rw [hye]
 have hlt : x77.l.t = y := by rw [hye]
 have hln : x77.l.nd = ns := by rw [hye]; exact hun
 have hlnl : x77.l.nd.length = ns.length := by rw [hln]
 refine o_pure (i := 5) (fun j w => ⟨(fun _ _ => trivial) j w, fun _ h => h⟩) rfl rfl (by kernel_rfl) (goes0 rfl) (QOk.then (QOk.inBlock (QOk.then (QOk.then (QOk.inBlock (QOk.inBlock (QOk.then (QOk.then (QOk.inBlock (QOk.then QOk.body)))))))))) (fun w => q_neq rfl rfl) ?_
 refine o_pure (i := 6) (fun j w => ⟨(fun _ _ => trivial) j w, fun _ h => h⟩) rfl rfl (by kernel_rfl) (goes0 rfl) (QOk.then (QOk.inBlock (QOk.then (QOk.then (QOk.inBlock (QOk.inBlock (QOk.then (QOk.then (QOk.inBlock (QOk.then QOk.body)))))))))) (fun w => q_moveB rfl) ?_
 refine g_splitO (t := 111) rfl (fun hg78 => ?_) (fun hg78 => ?_)
 have hg78b := hg78
 try simp only [zbb] at hg78
 exfalso; first | omega | exact hg78 trivial | exact absurd hg78 (by decide)
 have hg78b := hg78
 try simp only [zbb] at hg78
 refine o_pure (i := 7) (fun j w => ⟨(fun _ _ => trivial) j w, fun _ h => h⟩) rfl rfl (by kernel_rfl) (goes1 rfl rfl hg78b) (QOk.then (QOk.inBlock (QOk.then (QOk.then (QOk.inBlock (QOk.inBlock (QOk.then (QOk.then (QOk.inBlock (QOk.then QOk.body)))))))))) (fun w => q_moveS rfl) ?_
 refine o_pure (i := 8) (fun j w => ⟨(fun _ _ => trivial) j w, fun _ h => h⟩) rfl rfl (by kernel_rfl) (goes1 rfl rfl hg78b) (QOk.then (QOk.inBlock (QOk.then (QOk.then (QOk.inBlock (QOk.inBlock (QOk.then (QOk.then (QOk.inBlock (QOk.then QOk.body)))))))))) (fun w => q_moveI rfl) ?_
 refine o_pure (i := 9) (fun j w => ⟨(fun _ _ => trivial) j w, fun _ h => h⟩) rfl rfl (by kernel_rfl) (goes1 rfl rfl hg78b) (QOk.then (QOk.inBlock (QOk.then (QOk.then (QOk.inBlock (QOk.inBlock (QOk.then (QOk.then (QOk.inBlock (QOk.then QOk.body)))))))))) (fun w => q_ixG (e := 42) (m := 5) (j := j) rfl rfl (by kernel_rfl) (by kernel_rfl) (by first | rfl | omega) (by omega) (hS76.owG (i := 0) rfl) (by rw [rows_len (c := lo) (m := 5) (fun _ => rfl)]; first | omega | (simp only [zll] <;> omega))) ?_
 refine o_pure (i := 10) (fun j w => ⟨(fun _ _ => trivial) j w, fun _ h => h⟩) rfl rfl (by kernel_rfl) (goes1 rfl rfl hg78b) (QOk.then (QOk.inBlock (QOk.then (QOk.then (QOk.inBlock (QOk.inBlock (QOk.then (QOk.then (QOk.inBlock (QOk.then QOk.body)))))))))) (fun w => q_fieldG (ft := 3) (o := 2) rfl (by kernel_rfl)) ?_
 refine o_held (i := 11) [18, 19, 20, 21, 22, 23, 24, 25, 26, 27, 28, 29, 30] (fun j w => ⟨(fun _ _ => trivial) j w, fun _ h => h⟩) rfl rfl (by kernel_rfl) (goes1 rfl rfl hg78b) (QOk.then (QOk.inBlock (QOk.then (QOk.then (QOk.inBlock (QOk.inBlock (QOk.then (QOk.then (QOk.inBlock (QOk.then QOk.body)))))))))) (q_load1 rfl (by kernel_rfl) (SlG.cell (hS76.owG (i := 0) rfl) (Gle.refl _) (row_at hx77 (c := lo) (m := 5) (fun _ => rfl) (j := 2) rfl))) ?_
 refine o_pure (i := 12) (fun j w => ⟨(fun j w => ⟨(fun _ _ => trivial) j w, fun _ h => h⟩) j w, fun _ h => h⟩) rfl rfl (by kernel_rfl) (goes1 rfl rfl hg78b) (QOk.then (QOk.inBlock (QOk.then (QOk.then (QOk.inBlock (QOk.inBlock (QOk.then (QOk.then (QOk.inBlock (QOk.then QOk.body)))))))))) (fun w => q_moveS rfl) ?_
 refine o_pure (i := 13) (fun j w => ⟨(fun j w => ⟨(fun _ _ => trivial) j w, fun _ h => h⟩) j w, fun _ h => h⟩) rfl rfl (by kernel_rfl) (goes1 rfl rfl hg78b) (QOk.then (QOk.inBlock (QOk.then (QOk.then (QOk.inBlock (QOk.inBlock (QOk.then (QOk.then (QOk.inBlock (QOk.then QOk.body)))))))))) (fun w => q_moveI rfl) ?_
 refine o_pure (i := 14) (fun j w => ⟨(fun j w => ⟨(fun _ _ => trivial) j w, fun _ h => h⟩) j w, fun _ h => h⟩) rfl rfl (by kernel_rfl) (goes1 rfl rfl hg78b) (QOk.then (QOk.inBlock (QOk.then (QOk.then (QOk.inBlock (QOk.inBlock (QOk.then (QOk.then (QOk.inBlock (QOk.then QOk.body)))))))))) (fun w => q_moveI rfl) ?_
 refine o_pure (i := 15) (fun j w => ⟨(fun j w => ⟨(fun _ _ => trivial) j w, fun _ h => h⟩) j w, fun _ h => h⟩) rfl rfl (by kernel_rfl) (goes1 rfl rfl hg78b) (QOk.then (QOk.inBlock (QOk.then (QOk.then (QOk.inBlock (QOk.inBlock (QOk.then (QOk.then (QOk.inBlock (QOk.then QOk.body)))))))))) (fun w => q_addx rfl rfl (by first | decide | omega) (by first | decide | omega)) ?_
 refine o_pure (i := 16) (fun j w => ⟨(fun j w => ⟨(fun _ _ => trivial) j w, fun _ h => h⟩) j w, fun _ h => h⟩) rfl rfl (by kernel_rfl) (goes1 rfl rfl hg78b) (QOk.then (QOk.inBlock (QOk.then (QOk.then (QOk.inBlock (QOk.inBlock (QOk.then (QOk.then (QOk.inBlock (QOk.then QOk.body)))))))))) (fun w => q_ixG (e := 3) (m := 1) (j := (k + j)) rfl rfl (by kernel_rfl) (by kernel_rfl) (by first | rfl | omega) (by omega) hN (by rw [iv_len]; first | omega | (simp only [zll] <;> omega))) ?_
 obtain ⟨x79, hx79⟩ : ∃ x, (ns)[(k + j)]? = some x := ⟨_, List.getElem?_eq_getElem (by first | omega | (simp only [zll] <;> omega) | (simp <;> omega))⟩
 refine o_held (i := 17) [18, 19, 20, 21, 22, 23, 24, 25, 26, 27, 28, 29, 30] (fun j w => ⟨(fun j w => ⟨(fun _ _ => trivial) j w, fun _ h => h⟩) j w, fun _ h => h⟩) rfl rfl (by kernel_rfl) (goes1 rfl rfl hg78b) (QOk.then (QOk.inBlock (QOk.then (QOk.then (QOk.inBlock (QOk.inBlock (QOk.then (QOk.then (QOk.inBlock (QOk.then QOk.body)))))))))) (q_load1 rfl (by kernel_rfl) (SlG.cell (hN.mono hS76.base) (Gle.refl _) (at1 (iv_at hx79)))) ?_
 have hyx : y = x79 := by rw [drop_at hx79] at hy; exact (Option.some.inj hy).symm
 refine o_pure (i := 18) (fun j w => ⟨(fun j w => ⟨(fun j w => ⟨(fun _ _ => trivial) j w, fun _ h => h⟩) j w, fun _ h => h⟩) j w, fun _ h => h⟩) rfl rfl (by kernel_rfl) (goes1 rfl rfl hg78b) (QOk.then (QOk.inBlock (QOk.then (QOk.then (QOk.inBlock (QOk.inBlock (QOk.then (QOk.then (QOk.inBlock (QOk.then QOk.body)))))))))) (fun w => q_neq rfl rfl) ?_
 refine o_pure (i := 19) (fun j w => ⟨(fun j w => ⟨(fun j w => ⟨(fun _ _ => trivial) j w, fun _ h => h⟩) j w, fun _ h => h⟩) j w, fun _ h => h⟩) rfl rfl (by kernel_rfl) (goes0 rfl) (QOk.then (QOk.inBlock (QOk.then (QOk.then (QOk.inBlock (QOk.inBlock (QOk.then (QOk.then (QOk.inBlock (QOk.then QOk.body)))))))))) (fun w => q_pickF rfl hg78b rfl) ?_
 refine o_pure (i := 20) (fun j w => ⟨(fun j w => ⟨(fun j w => ⟨(fun _ _ => trivial) j w, fun _ h => h⟩) j w, fun _ h => h⟩) j w, fun _ h => h⟩) rfl rfl (by kernel_rfl) (goes0 rfl) (QOk.then (QOk.inBlock (QOk.then (QOk.then (QOk.inBlock (QOk.inBlock (QOk.then (QOk.then (QOk.inBlock (QOk.then QOk.body)))))))))) (fun w => q_moveB rfl) ?_
 refine g_splitO (t := 125) rfl (fun hg80 => ?_) (fun hg80 => ?_)
 have hg80b := hg80
 try simp only [zbb] at hg80
 exfalso; first | omega | exact hg80 trivial | exact absurd hg80 (by decide)
 have hg80b := hg80
 try simp only [zbb] at hg80
 refine o_pure (i := 21) (fun j w => ⟨(fun j w => ⟨(fun j w => ⟨(fun _ _ => trivial) j w, fun _ h => h⟩) j w, fun _ h => h⟩) j w, fun _ h => h⟩) rfl rfl (by kernel_rfl) (goes1 rfl rfl hg80b) (QOk.then (QOk.inBlock (QOk.then (QOk.then (QOk.inBlock (QOk.inBlock (QOk.then (QOk.then (QOk.inBlock (QOk.then QOk.body)))))))))) (fun w => q_moveS rfl) ?_
 refine o_pure (i := 22) (fun j w => ⟨(fun j w => ⟨(fun j w => ⟨(fun _ _ => trivial) j w, fun _ h => h⟩) j w, fun _ h => h⟩) j w, fun _ h => h⟩) rfl rfl (by kernel_rfl) (goes1 rfl rfl hg80b) (QOk.then (QOk.inBlock (QOk.then (QOk.then (QOk.inBlock (QOk.inBlock (QOk.then (QOk.then (QOk.inBlock (QOk.then QOk.body)))))))))) (fun w => q_moveI rfl) ?_
 refine o_pure (i := 23) (fun j w => ⟨(fun j w => ⟨(fun j w => ⟨(fun _ _ => trivial) j w, fun _ h => h⟩) j w, fun _ h => h⟩) j w, fun _ h => h⟩) rfl rfl (by kernel_rfl) (goes1 rfl rfl hg80b) (QOk.then (QOk.inBlock (QOk.then (QOk.then (QOk.inBlock (QOk.inBlock (QOk.then (QOk.then (QOk.inBlock (QOk.then QOk.body)))))))))) (fun w => q_ixG (e := 42) (m := 5) (j := j) rfl rfl (by kernel_rfl) (by kernel_rfl) (by first | rfl | omega) (by omega) (hS76.owG (i := 0) rfl) (by rw [rows_len (c := lo) (m := 5) (fun _ => rfl)]; first | omega | (simp only [zll] <;> omega))) ?_
 refine o_pure (i := 24) (fun j w => ⟨(fun j w => ⟨(fun j w => ⟨(fun _ _ => trivial) j w, fun _ h => h⟩) j w, fun _ h => h⟩) j w, fun _ h => h⟩) rfl rfl (by kernel_rfl) (goes1 rfl rfl hg80b) (QOk.then (QOk.inBlock (QOk.then (QOk.then (QOk.inBlock (QOk.inBlock (QOk.then (QOk.then (QOk.inBlock (QOk.then QOk.body)))))))))) (fun w => q_fieldG (ft := 22) (o := 4) rfl (by kernel_rfl)) ?_
 refine o_held (i := 25) [26, 29, 30] (fun j w => ⟨(fun j w => ⟨(fun j w => ⟨(fun _ _ => trivial) j w, fun _ h => h⟩) j w, fun _ h => h⟩) j w, fun _ h => h⟩) rfl rfl (by kernel_rfl) (goes1 rfl rfl hg80b) (QOk.then (QOk.inBlock (QOk.then (QOk.then (QOk.inBlock (QOk.inBlock (QOk.then (QOk.then (QOk.inBlock (QOk.then QOk.body)))))))))) (q_load1 rfl (by kernel_rfl) (SlG.cell (hS76.owG (i := 0) rfl) (Gle.refl _) (row_at hx77 (c := lo) (m := 5) (fun _ => rfl) (j := 4) rfl))) ?_
 refine o_pure (i := 26) (fun j w => ⟨(fun j w => ⟨(fun j w => ⟨(fun j w => ⟨(fun _ _ => trivial) j w, fun _ h => h⟩) j w, fun _ h => h⟩) j w, fun _ h => h⟩) j w, fun _ h => h⟩) rfl rfl (by kernel_rfl) (goes1 rfl rfl hg80b) (QOk.then (QOk.inBlock (QOk.then (QOk.then (QOk.inBlock (QOk.inBlock (QOk.then (QOk.then (QOk.inBlock (QOk.then QOk.body)))))))))) (fun w => q_lenSl (e := 3) rfl (by kernel_rfl)) ?_
 refine o_pure (i := 27) (fun j w => ⟨(fun j w => ⟨(fun j w => ⟨(fun j w => ⟨(fun _ _ => trivial) j w, fun _ h => h⟩) j w, fun _ h => h⟩) j w, fun _ h => h⟩) j w, fun _ h => h⟩) rfl rfl (by kernel_rfl) (goes1 rfl rfl hg80b) (QOk.then (QOk.inBlock (QOk.then (QOk.then (QOk.inBlock (QOk.inBlock (QOk.then (QOk.then (QOk.inBlock (QOk.then QOk.body)))))))))) (fun w => q_moveS rfl) ?_
 refine o_pure (i := 28) (fun j w => ⟨(fun j w => ⟨(fun j w => ⟨(fun j w => ⟨(fun _ _ => trivial) j w, fun _ h => h⟩) j w, fun _ h => h⟩) j w, fun _ h => h⟩) j w, fun _ h => h⟩) rfl rfl (by kernel_rfl) (goes1 rfl rfl hg80b) (QOk.then (QOk.inBlock (QOk.then (QOk.then (QOk.inBlock (QOk.inBlock (QOk.then (QOk.then (QOk.inBlock (QOk.then QOk.body)))))))))) (fun w => q_lenSl (e := 3) rfl (by kernel_rfl)) ?_
 refine o_pure (i := 29) (fun j w => ⟨(fun j w => ⟨(fun j w => ⟨(fun j w => ⟨(fun _ _ => trivial) j w, fun _ h => h⟩) j w, fun _ h => h⟩) j w, fun _ h => h⟩) j w, fun _ h => h⟩) rfl rfl (by kernel_rfl) (goes1 rfl rfl hg80b) (QOk.then (QOk.inBlock (QOk.then (QOk.then (QOk.inBlock (QOk.inBlock (QOk.then (QOk.then (QOk.inBlock (QOk.then QOk.body)))))))))) (fun w => q_neq rfl rfl) ?_
 refine o_pure (i := 30) (fun j w => ⟨(fun j w => ⟨(fun j w => ⟨(fun j w => ⟨(fun _ _ => trivial) j w, fun _ h => h⟩) j w, fun _ h => h⟩) j w, fun _ h => h⟩) j w, fun _ h => h⟩) rfl rfl (by kernel_rfl) (goes0 rfl) (QOk.then (QOk.inBlock (QOk.then (QOk.then (QOk.inBlock (QOk.inBlock (QOk.then (QOk.then (QOk.inBlock (QOk.then QOk.body)))))))))) (fun w => q_pickF rfl hg80b rfl) ?_
 refine o_done (by kernel_rfl) ?_
 refine hK75 _ _ ?_
 refine c_cond rfl (fun hc81 => ?_) (fun hc81 => ?_)
 have hc81b := hc81
 try simp only [zbb] at hc81
 exfalso; first | omega | exact hc81 trivial | exact absurd hc81 (by decide)
 have hc81b := hc81
 try simp only [zbb] at hc81
 refine wp_skip ?_
 refine hK74 _ _ ?_
 refine wp_region_lit ?_
 refine l_q rfl rfl (q_moveI rfl) ?_
 refine l_q rfl rfl (q_addx rfl rfl (by first | decide | omega) (by first | decide | omega)) ?_
 refine l_q rfl rfl (q_assignI rfl) ?_
 refine l_nil ?_
 refine hK70 _ _ (came ((j + 1)) (by repeat' (first | exact Agree.refl _ _ | refine Agree.up ?_ rfl | refine Agree.hav2 ?_ rfl | refine Agree.ups2 ?_ rfl)) (by repeat' (first | exact trivial | refine ⟨by first | rfl | exact int_succ _ | assumption, ?_⟩)) ?_)
 exact ⟨⟨hS76, (by show j + 1 ≤ O57.length; omega)⟩, by (show O57.length - (j + 1) < O57.length - j); omega⟩
 have hc73b := hc73
 try simp only [zbb] at hc73
 refine wp_exit ?_
 refine hK55 _ _ ?_
 refine wp_region_lit ?_
 refine l_q rfl rfl (q_moveI rfl) ?_
 refine l_q rfl rfl (q_addx rfl rfl (by first | decide | omega) (by first | decide | omega)) ?_
 refine l_q rfl rfl (q_assignI rfl) ?_
 refine l_nil ?_
 have hS82 := hS70.fr2; clear hS70
 have hS83 := hS82.fr2; clear hS82
 have hS84 : St _ _ [_, .fz g57] _ := hS83.only 2; clear hS83
 refine hK51 _ _ (came (⟨(i + 1), T57, none, 0, g57⟩) (by repeat' (first | exact Agree.refl _ _ | refine Agree.up ?_ rfl | refine Agree.hav2 ?_ rfl | refine Agree.ups2 ?_ rfl)) (by repeat' (first | exact trivial | refine ⟨by first | rfl | exact int_succ _ | assumption, ?_⟩)) ?_)
 exact ⟨⟨hS84, (by show 1 ≤ i + 1; omega), (by show i + 1 ≤ 16; omega), hT57, (by rw [hab57]; congr 1; show _ = (i + 1 - 1) % 5; split <;> omega)⟩, by (show 16 - (i + 1) < 16 - i); omega⟩
 have hc65b := hc65
 try simp only [zbb] at hc65
 have hlq : O57.length = 0 := by rw [hlen57, if_pos (.inr (by omega))]; rfl
 refine wp_skip ?_
 refine hK63 _ _ ?_
 refine wp_seq_k (fun K85 hK85 => ?_)
 refine wp_seq_k (fun K86 hK86 => ?_)
 refine wp_region_lit ?_
 refine l_q rfl rfl (q_moveS rfl) ?_
 refine l_q rfl rfl (q_lenSl (e := 42) rfl (by kernel_rfl)) ?_
 refine l_q rfl rfl (q_moveI rfl) ?_
 refine l_q rfl rfl (q_neq rfl rfl) ?_
 refine l_nil ?_
 refine hK86 _ _ ?_
 refine c_cond rfl (fun hc87 => ?_) (fun hc87 => ?_)
 have hc87b := hc87
 try simp only [zbb] at hc87
 exfalso; first | omega | exact hc87 trivial | exact absurd hc87 (by decide)
 have hc87b := hc87
 try simp only [zbb] at hc87
 refine wp_skip ?_
 refine hK85 _ _ ?_
 refine wp_seq_k (fun K88 hK88 => ?_)
 refine wp_region_lit ?_
 refine l_q rfl rfl (q_assignI rfl) ?_
 refine l_nil ?_
 refine hK88 _ _ ?_
 refine wp_block ?_
 refine c_loop (τ := Nat) [(6, 6), (17, 17), (99, 135)] (fun x => (fun (j : Nat) => [(17, .int .i64 (j : Int))]) x) (fun x w' => (fun (j : Nat) => St w (fun _ => False) [.ow 42 5 oa57 O57.length oc57 (List.flatMap lo O57), co k6 kw6 nd 0 (0 + 1) mb6 none [] 0 T57, .fz g57] w' ∧ j ≤ O57.length) x) (fun x => (fun (j : Nat) => O57.length - j) x) (0) ?_ (by repeat' (first | exact trivial | refine ⟨by first | rfl | exact int_succ _ | assumption, ?_⟩)) (fun j j89 w89 hJ89 K89 hK89 => ?_)
 exact ⟨hS61, Nat.zero_le _⟩
 obtain ⟨hS89, hj⟩ := hJ89
 try dsimp only at hS89 hj ⊢
 refine wp_seq_k (fun K90 hK90 => ?_)
 refine wp_seq_k (fun K91 hK91 => ?_)
 refine wp_region_lit ?_
 refine l_q rfl rfl (q_moveI rfl) ?_
 refine l_q rfl rfl (q_moveS rfl) ?_
 refine l_q rfl rfl (q_lenSl (e := 42) rfl (by kernel_rfl)) ?_
 refine l_q rfl rfl (q_lss rfl rfl) ?_
 refine l_nil ?_
 refine hK91 _ _ ?_
 refine c_cond rfl (fun hc92 => ?_) (fun hc92 => ?_)
 have hc92b := hc92
 try simp only [zbb] at hc92
 refine wp_skip ?_
 refine hK90 _ _ ?_
 refine wp_seq_k (fun K93 hK93 => ?_)
 refine wp_block ?_
 refine wp_seq_k (fun K94 hK94 => ?_)
 refine r_any (by kernel_rfl) hS89 (fun w95 hS95 => ?_)
 clear hS89
 refine o_pure (i := 0) (fun _ _ => trivial) rfl rfl (by kernel_rfl) (goes0 rfl) (QOk.then (QOk.inBlock (QOk.then (QOk.then (QOk.inBlock (QOk.inBlock (QOk.then (QOk.then (QOk.inBlock (QOk.then QOk.body)))))))))) (fun w => q_moveS rfl) ?_
 refine o_pure (i := 1) (fun _ _ => trivial) rfl rfl (by kernel_rfl) (goes0 rfl) (QOk.then (QOk.inBlock (QOk.then (QOk.then (QOk.inBlock (QOk.inBlock (QOk.then (QOk.then (QOk.inBlock (QOk.then QOk.body)))))))))) (fun w => q_moveI rfl) ?_
 refine o_pure (i := 2) (fun _ _ => trivial) rfl rfl (by kernel_rfl) (goes0 rfl) (QOk.then (QOk.inBlock (QOk.then (QOk.then (QOk.inBlock (QOk.inBlock (QOk.then (QOk.then (QOk.inBlock (QOk.then QOk.body)))))))))) (fun w => q_ixG (e := 42) (m := 5) (j := j) rfl rfl (by kernel_rfl) (by kernel_rfl) (by first | rfl | omega) (by omega) (hS95.owG (i := 0) rfl) (by rw [rows_len (c := lo) (m := 5) (fun _ => rfl)]; first | omega | (simp only [zll] <;> omega))) ?_
 refine o_pure (i := 3) (fun _ _ => trivial) rfl rfl (by kernel_rfl) (goes0 rfl) (QOk.then (QOk.inBlock (QOk.then (QOk.then (QOk.inBlock (QOk.inBlock (QOk.then (QOk.then (QOk.inBlock (QOk.then QOk.body)))))))))) (fun w => q_fieldG (ft := 40) (o := 0) rfl (by kernel_rfl)) ?_
 obtain ⟨x96, hx96⟩ : ∃ x, (O57)[j]? = some x := ⟨_, List.getElem?_eq_getElem (by first | omega | (simp only [zll] <;> omega) | (simp <;> omega))⟩
 have hlx_x96 := (hO57 x96 (List.mem_of_getElem? hx96)).2
 refine o_held (i := 4) [5, 6, 7, 8, 9, 10, 11, 12, 13, 14, 15, 16, 17, 18, 19, 20, 21, 22, 23, 24, 25, 26, 27, 28, 29, 30] (fun _ _ => trivial) rfl rfl (by kernel_rfl) (goes0 rfl) (QOk.then (QOk.inBlock (QOk.then (QOk.then (QOk.inBlock (QOk.inBlock (QOk.then (QOk.then (QOk.inBlock (QOk.then QOk.body)))))))))) (q_load1 rfl (by kernel_rfl) (SlG.cell (hS95.owG (i := 0) rfl) (Gle.refl _) (row_at hx96 (c := lo) (m := 5) (fun _ => rfl) (j := 0) rfl))) ?_
 have hlx := los_at hOe57 hx96
 rw [if_neg (by intro hc; rw [if_pos hc] at hlen57; have : O57.length = 0 := hlen57; omega)] at hlx
 obtain ⟨y, hy, hye⟩ := sends_get hlx
 have hlk : x96.l.k = 1 := by rw [hye]
 have hlt : x96.l.t = y := by rw [hye]
 have hln : x96.l.nd = ns := by rw [hye]; exact hun
 have hlnl : x96.l.nd.length = ns.length := by rw [hln]
 refine o_pure (i := 5) (fun j w => ⟨(fun _ _ => trivial) j w, fun _ h => h⟩) rfl rfl (by kernel_rfl) (goes0 rfl) (QOk.then (QOk.inBlock (QOk.then (QOk.then (QOk.inBlock (QOk.inBlock (QOk.then (QOk.then (QOk.inBlock (QOk.then QOk.body)))))))))) (fun w => q_neq rfl rfl) ?_
 refine o_pure (i := 6) (fun j w => ⟨(fun _ _ => trivial) j w, fun _ h => h⟩) rfl rfl (by kernel_rfl) (goes0 rfl) (QOk.then (QOk.inBlock (QOk.then (QOk.then (QOk.inBlock (QOk.inBlock (QOk.then (QOk.then (QOk.inBlock (QOk.then QOk.body)))))))))) (fun w => q_moveB rfl) ?_
 refine g_splitO (t := 111) rfl (fun hg97 => ?_) (fun hg97 => ?_)
 have hg97b := hg97
 try simp only [zbb] at hg97
 exfalso; first | omega | exact hg97 trivial | exact absurd hg97 (by decide)
 have hg97b := hg97
 try simp only [zbb] at hg97
 refine o_pure (i := 7) (fun j w => ⟨(fun _ _ => trivial) j w, fun _ h => h⟩) rfl rfl (by kernel_rfl) (goes1 rfl rfl hg97b) (QOk.then (QOk.inBlock (QOk.then (QOk.then (QOk.inBlock (QOk.inBlock (QOk.then (QOk.then (QOk.inBlock (QOk.then QOk.body)))))))))) (fun w => q_moveS rfl) ?_
 refine o_pure (i := 8) (fun j w => ⟨(fun _ _ => trivial) j w, fun _ h => h⟩) rfl rfl (by kernel_rfl) (goes1 rfl rfl hg97b) (QOk.then (QOk.inBlock (QOk.then (QOk.then (QOk.inBlock (QOk.inBlock (QOk.then (QOk.then (QOk.inBlock (QOk.then QOk.body)))))))))) (fun w => q_moveI rfl) ?_
 refine o_pure (i := 9) (fun j w => ⟨(fun _ _ => trivial) j w, fun _ h => h⟩) rfl rfl (by kernel_rfl) (goes1 rfl rfl hg97b) (QOk.then (QOk.inBlock (QOk.then (QOk.then (QOk.inBlock (QOk.inBlock (QOk.then (QOk.then (QOk.inBlock (QOk.then QOk.body)))))))))) (fun w => q_ixG (e := 42) (m := 5) (j := j) rfl rfl (by kernel_rfl) (by kernel_rfl) (by first | rfl | omega) (by omega) (hS95.owG (i := 0) rfl) (by rw [rows_len (c := lo) (m := 5) (fun _ => rfl)]; first | omega | (simp only [zll] <;> omega))) ?_
 refine o_pure (i := 10) (fun j w => ⟨(fun _ _ => trivial) j w, fun _ h => h⟩) rfl rfl (by kernel_rfl) (goes1 rfl rfl hg97b) (QOk.then (QOk.inBlock (QOk.then (QOk.then (QOk.inBlock (QOk.inBlock (QOk.then (QOk.then (QOk.inBlock (QOk.then QOk.body)))))))))) (fun w => q_fieldG (ft := 3) (o := 2) rfl (by kernel_rfl)) ?_
 refine o_held (i := 11) [18, 19, 20, 21, 22, 23, 24, 25, 26, 27, 28, 29, 30] (fun j w => ⟨(fun _ _ => trivial) j w, fun _ h => h⟩) rfl rfl (by kernel_rfl) (goes1 rfl rfl hg97b) (QOk.then (QOk.inBlock (QOk.then (QOk.then (QOk.inBlock (QOk.inBlock (QOk.then (QOk.then (QOk.inBlock (QOk.then QOk.body)))))))))) (q_load1 rfl (by kernel_rfl) (SlG.cell (hS95.owG (i := 0) rfl) (Gle.refl _) (row_at hx96 (c := lo) (m := 5) (fun _ => rfl) (j := 2) rfl))) ?_
 refine o_pure (i := 12) (fun j w => ⟨(fun j w => ⟨(fun _ _ => trivial) j w, fun _ h => h⟩) j w, fun _ h => h⟩) rfl rfl (by kernel_rfl) (goes1 rfl rfl hg97b) (QOk.then (QOk.inBlock (QOk.then (QOk.then (QOk.inBlock (QOk.inBlock (QOk.then (QOk.then (QOk.inBlock (QOk.then QOk.body)))))))))) (fun w => q_moveS rfl) ?_
 refine o_pure (i := 13) (fun j w => ⟨(fun j w => ⟨(fun _ _ => trivial) j w, fun _ h => h⟩) j w, fun _ h => h⟩) rfl rfl (by kernel_rfl) (goes1 rfl rfl hg97b) (QOk.then (QOk.inBlock (QOk.then (QOk.then (QOk.inBlock (QOk.inBlock (QOk.then (QOk.then (QOk.inBlock (QOk.then QOk.body)))))))))) (fun w => q_moveI rfl) ?_
 refine o_pure (i := 14) (fun j w => ⟨(fun j w => ⟨(fun _ _ => trivial) j w, fun _ h => h⟩) j w, fun _ h => h⟩) rfl rfl (by kernel_rfl) (goes1 rfl rfl hg97b) (QOk.then (QOk.inBlock (QOk.then (QOk.then (QOk.inBlock (QOk.inBlock (QOk.then (QOk.then (QOk.inBlock (QOk.then QOk.body)))))))))) (fun w => q_moveI rfl) ?_
 refine o_pure (i := 15) (fun j w => ⟨(fun j w => ⟨(fun _ _ => trivial) j w, fun _ h => h⟩) j w, fun _ h => h⟩) rfl rfl (by kernel_rfl) (goes1 rfl rfl hg97b) (QOk.then (QOk.inBlock (QOk.then (QOk.then (QOk.inBlock (QOk.inBlock (QOk.then (QOk.then (QOk.inBlock (QOk.then QOk.body)))))))))) (fun w => q_addx rfl rfl (by first | decide | omega) (by first | decide | omega)) ?_
 refine o_pure (i := 16) (fun j w => ⟨(fun j w => ⟨(fun _ _ => trivial) j w, fun _ h => h⟩) j w, fun _ h => h⟩) rfl rfl (by kernel_rfl) (goes1 rfl rfl hg97b) (QOk.then (QOk.inBlock (QOk.then (QOk.then (QOk.inBlock (QOk.inBlock (QOk.then (QOk.then (QOk.inBlock (QOk.then QOk.body)))))))))) (fun w => q_ixG (e := 3) (m := 1) (j := (k + j)) rfl rfl (by kernel_rfl) (by kernel_rfl) (by first | rfl | omega) (by omega) hN (by rw [iv_len]; first | omega | (simp only [zll] <;> omega))) ?_
 obtain ⟨x98, hx98⟩ : ∃ x, (ns)[(k + j)]? = some x := ⟨_, List.getElem?_eq_getElem (by first | omega | (simp only [zll] <;> omega) | (simp <;> omega))⟩
 refine o_held (i := 17) [18, 19, 20, 21, 22, 23, 24, 25, 26, 27, 28, 29, 30] (fun j w => ⟨(fun j w => ⟨(fun _ _ => trivial) j w, fun _ h => h⟩) j w, fun _ h => h⟩) rfl rfl (by kernel_rfl) (goes1 rfl rfl hg97b) (QOk.then (QOk.inBlock (QOk.then (QOk.then (QOk.inBlock (QOk.inBlock (QOk.then (QOk.then (QOk.inBlock (QOk.then QOk.body)))))))))) (q_load1 rfl (by kernel_rfl) (SlG.cell (hN.mono hS95.base) (Gle.refl _) (at1 (iv_at hx98)))) ?_
 have hyx : y = x98 := by rw [drop_at hx98] at hy; exact (Option.some.inj hy).symm
 refine o_pure (i := 18) (fun j w => ⟨(fun j w => ⟨(fun j w => ⟨(fun _ _ => trivial) j w, fun _ h => h⟩) j w, fun _ h => h⟩) j w, fun _ h => h⟩) rfl rfl (by kernel_rfl) (goes1 rfl rfl hg97b) (QOk.then (QOk.inBlock (QOk.then (QOk.then (QOk.inBlock (QOk.inBlock (QOk.then (QOk.then (QOk.inBlock (QOk.then QOk.body)))))))))) (fun w => q_neq rfl rfl) ?_
 refine o_pure (i := 19) (fun j w => ⟨(fun j w => ⟨(fun j w => ⟨(fun _ _ => trivial) j w, fun _ h => h⟩) j w, fun _ h => h⟩) j w, fun _ h => h⟩) rfl rfl (by kernel_rfl) (goes0 rfl) (QOk.then (QOk.inBlock (QOk.then (QOk.then (QOk.inBlock (QOk.inBlock (QOk.then (QOk.then (QOk.inBlock (QOk.then QOk.body)))))))))) (fun w => q_pickF rfl hg97b rfl) ?_
 refine o_pure (i := 20) (fun j w => ⟨(fun j w => ⟨(fun j w => ⟨(fun _ _ => trivial) j w, fun _ h => h⟩) j w, fun _ h => h⟩) j w, fun _ h => h⟩) rfl rfl (by kernel_rfl) (goes0 rfl) (QOk.then (QOk.inBlock (QOk.then (QOk.then (QOk.inBlock (QOk.inBlock (QOk.then (QOk.then (QOk.inBlock (QOk.then QOk.body)))))))))) (fun w => q_moveB rfl) ?_
 refine g_splitO (t := 125) rfl (fun hg99 => ?_) (fun hg99 => ?_)
 have hg99b := hg99
 try simp only [zbb] at hg99
 exfalso; first | omega | exact hg99 trivial | exact absurd hg99 (by decide)
 have hg99b := hg99
 try simp only [zbb] at hg99
 refine o_pure (i := 21) (fun j w => ⟨(fun j w => ⟨(fun j w => ⟨(fun _ _ => trivial) j w, fun _ h => h⟩) j w, fun _ h => h⟩) j w, fun _ h => h⟩) rfl rfl (by kernel_rfl) (goes1 rfl rfl hg99b) (QOk.then (QOk.inBlock (QOk.then (QOk.then (QOk.inBlock (QOk.inBlock (QOk.then (QOk.then (QOk.inBlock (QOk.then QOk.body)))))))))) (fun w => q_moveS rfl) ?_
 refine o_pure (i := 22) (fun j w => ⟨(fun j w => ⟨(fun j w => ⟨(fun _ _ => trivial) j w, fun _ h => h⟩) j w, fun _ h => h⟩) j w, fun _ h => h⟩) rfl rfl (by kernel_rfl) (goes1 rfl rfl hg99b) (QOk.then (QOk.inBlock (QOk.then (QOk.then (QOk.inBlock (QOk.inBlock (QOk.then (QOk.then (QOk.inBlock (QOk.then QOk.body)))))))))) (fun w => q_moveI rfl) ?_
 refine o_pure (i := 23) (fun j w => ⟨(fun j w => ⟨(fun j w => ⟨(fun _ _ => trivial) j w, fun _ h => h⟩) j w, fun _ h => h⟩) j w, fun _ h => h⟩) rfl rfl (by kernel_rfl) (goes1 rfl rfl hg99b) (QOk.then (QOk.inBlock (QOk.then (QOk.then (QOk.inBlock (QOk.inBlock (QOk.then (QOk.then (QOk.inBlock (QOk.then QOk.body)))))))))) (fun w => q_ixG (e := 42) (m := 5) (j := j) rfl rfl (by kernel_rfl) (by kernel_rfl) (by first | rfl | omega) (by omega) (hS95.owG (i := 0) rfl) (by rw [rows_len (c := lo) (m := 5) (fun _ => rfl)]; first | omega | (simp only [zll] <;> omega))) ?_
 refine o_pure (i := 24) (fun j w => ⟨(fun j w => ⟨(fun j w => ⟨(fun _ _ => trivial) j w, fun _ h => h⟩) j w, fun _ h => h⟩) j w, fun _ h => h⟩) rfl rfl (by kernel_rfl) (goes1 rfl rfl hg99b) (QOk.then (QOk.inBlock (QOk.then (QOk.then (QOk.inBlock (QOk.inBlock (QOk.then (QOk.then (QOk.inBlock (QOk.then QOk.body)))))))))) (fun w => q_fieldG (ft := 22) (o := 4) rfl (by kernel_rfl)) ?_
 refine o_held (i := 25) [26, 29, 30] (fun j w => ⟨(fun j w => ⟨(fun j w => ⟨(fun _ _ => trivial) j w, fun _ h => h⟩) j w, fun _ h => h⟩) j w, fun _ h => h⟩) rfl rfl (by kernel_rfl) (goes1 rfl rfl hg99b) (QOk.then (QOk.inBlock (QOk.then (QOk.then (QOk.inBlock (QOk.inBlock (QOk.then (QOk.then (QOk.inBlock (QOk.then QOk.body)))))))))) (q_load1 rfl (by kernel_rfl) (SlG.cell (hS95.owG (i := 0) rfl) (Gle.refl _) (row_at hx96 (c := lo) (m := 5) (fun _ => rfl) (j := 4) rfl))) ?_
 refine o_pure (i := 26) (fun j w => ⟨(fun j w => ⟨(fun j w => ⟨(fun j w => ⟨(fun _ _ => trivial) j w, fun _ h => h⟩) j w, fun _ h => h⟩) j w, fun _ h => h⟩) j w, fun _ h => h⟩) rfl rfl (by kernel_rfl) (goes1 rfl rfl hg99b) (QOk.then (QOk.inBlock (QOk.then (QOk.then (QOk.inBlock (QOk.inBlock (QOk.then (QOk.then (QOk.inBlock (QOk.then QOk.body)))))))))) (fun w => q_lenSl (e := 3) rfl (by kernel_rfl)) ?_
 refine o_pure (i := 27) (fun j w => ⟨(fun j w => ⟨(fun j w => ⟨(fun j w => ⟨(fun _ _ => trivial) j w, fun _ h => h⟩) j w, fun _ h => h⟩) j w, fun _ h => h⟩) j w, fun _ h => h⟩) rfl rfl (by kernel_rfl) (goes1 rfl rfl hg99b) (QOk.then (QOk.inBlock (QOk.then (QOk.then (QOk.inBlock (QOk.inBlock (QOk.then (QOk.then (QOk.inBlock (QOk.then QOk.body)))))))))) (fun w => q_moveS rfl) ?_
 refine o_pure (i := 28) (fun j w => ⟨(fun j w => ⟨(fun j w => ⟨(fun j w => ⟨(fun _ _ => trivial) j w, fun _ h => h⟩) j w, fun _ h => h⟩) j w, fun _ h => h⟩) j w, fun _ h => h⟩) rfl rfl (by kernel_rfl) (goes1 rfl rfl hg99b) (QOk.then (QOk.inBlock (QOk.then (QOk.then (QOk.inBlock (QOk.inBlock (QOk.then (QOk.then (QOk.inBlock (QOk.then QOk.body)))))))))) (fun w => q_lenSl (e := 3) rfl (by kernel_rfl)) ?_
 refine o_pure (i := 29) (fun j w => ⟨(fun j w => ⟨(fun j w => ⟨(fun j w => ⟨(fun _ _ => trivial) j w, fun _ h => h⟩) j w, fun _ h => h⟩) j w, fun _ h => h⟩) j w, fun _ h => h⟩) rfl rfl (by kernel_rfl) (goes1 rfl rfl hg99b) (QOk.then (QOk.inBlock (QOk.then (QOk.then (QOk.inBlock (QOk.inBlock (QOk.then (QOk.then (QOk.inBlock (QOk.then QOk.body)))))))))) (fun w => q_neq rfl rfl) ?_
 refine o_pure (i := 30) (fun j w => ⟨(fun j w => ⟨(fun j w => ⟨(fun j w => ⟨(fun _ _ => trivial) j w, fun _ h => h⟩) j w, fun _ h => h⟩) j w, fun _ h => h⟩) j w, fun _ h => h⟩) rfl rfl (by kernel_rfl) (goes0 rfl) (QOk.then (QOk.inBlock (QOk.then (QOk.then (QOk.inBlock (QOk.inBlock (QOk.then (QOk.then (QOk.inBlock (QOk.then QOk.body)))))))))) (fun w => q_pickF rfl hg99b rfl) ?_
 refine o_done (by kernel_rfl) ?_
 refine hK94 _ _ ?_
 refine c_cond rfl (fun hc100 => ?_) (fun hc100 => ?_)
 have hc100b := hc100
 try simp only [zbb] at hc100
 exfalso; first | omega | exact hc100 trivial | exact absurd hc100 (by decide)
 have hc100b := hc100
 try simp only [zbb] at hc100
 refine wp_skip ?_
 refine hK93 _ _ ?_
 refine wp_region_lit ?_
 refine l_q rfl rfl (q_moveI rfl) ?_
 refine l_q rfl rfl (q_addx rfl rfl (by first | decide | omega) (by first | decide | omega)) ?_
 refine l_q rfl rfl (q_assignI rfl) ?_
 refine l_nil ?_
 refine hK89 _ _ (came ((j + 1)) (by repeat' (first | exact Agree.refl _ _ | refine Agree.up ?_ rfl | refine Agree.hav2 ?_ rfl | refine Agree.ups2 ?_ rfl)) (by repeat' (first | exact trivial | refine ⟨by first | rfl | exact int_succ _ | assumption, ?_⟩)) ?_)
 exact ⟨⟨hS95, (by show j + 1 ≤ O57.length; omega)⟩, by (show O57.length - (j + 1) < O57.length - j); omega⟩
 have hc92b := hc92
 try simp only [zbb] at hc92
 refine wp_exit ?_
 refine hK55 _ _ ?_
 refine wp_region_lit ?_
 refine l_q rfl rfl (q_moveI rfl) ?_
 refine l_q rfl rfl (q_addx rfl rfl (by first | decide | omega) (by first | decide | omega)) ?_
 refine l_q rfl rfl (q_assignI rfl) ?_
 refine l_nil ?_
 have hS101 := hS89.fr2; clear hS89
 have hS102 := hS101.fr2; clear hS101
 have hS103 : St _ _ [_, .fz g57] _ := hS102.only 2; clear hS102
 refine hK51 _ _ (came (⟨(i + 1), T57, none, 0, g57⟩) (by repeat' (first | exact Agree.refl _ _ | refine Agree.up ?_ rfl | refine Agree.hav2 ?_ rfl | refine Agree.ups2 ?_ rfl)) (by repeat' (first | exact trivial | refine ⟨by first | rfl | exact int_succ _ | assumption, ?_⟩)) ?_)
 exact ⟨⟨hS103, (by show 1 ≤ i + 1; omega), (by show i + 1 ≤ 16; omega), hT57, (by rw [hab57]; congr 1; show _ = (i + 1 - 1) % 5; split <;> omega)⟩, by (show 16 - (i + 1) < 16 - i); omega⟩
 have hc54b := hc54
 try simp only [zbb] at hc54
 refine wp_exit ?_
 refine hK46 _ _ ?_
 refine wp_seq_k (fun K104 hK104 => ?_)
 refine wp_region_lit ?_
 refine l_q rfl rfl (q_moveP rfl) ?_
 refine l_q rfl rfl (q_moveI rfl) ?_
 by_cases hkn : k = ns.length
 refine l_e rfl (fun K hK => ?_)
 refine e_call (by kernel_rfl) (stop_any k6 kw6 nd 0 (0 + 1) mb6 oa2 [] oc2 T hT g2 LOk.nil (by first | omega | (simp only [zll] <;> omega)) nd _ (St.begin (Γ := [_, _]) hS51)) rfl (after_M (Γ1 := [_, _]) hS51 (fun v105 G105 w105 hv105 hS105 => ?_))
 clear hS51
 obtain ⟨a105, oa105, oc105, O105, T105, g105, rfl, rfl, hle105, hO105, hT105, hE105⟩ := hv105
 have hS106 : St _ _ [co k6 kw6 nd 0 (0 + 1) mb6 oa105 O105 oc105 T105, .fz g105] _ := hS105; clear hS105
 refine hK _ _ ?_; clear hK K
 rw [hTT, hkn, List.take_length, (ofL_pair hu).2.2, tk_all] at hE105
 obtain ⟨ea105, eT105, eO105⟩ := val3 hE105 (stop_nil')
 subst ea105
 have eN105 := abs_nil eT105
 subst eN105
 have eM105 := los_nil eO105
 subst eM105
 refine l_q rfl rfl (q_assignI rfl) ?_
 refine l_nil ?_
 refine hK104 _ _ ?_
 refine wp_seq_k (fun K107 hK107 => ?_)
 refine wp_region_lit ?_
 refine l_q rfl rfl (q_moveP rfl) ?_
 refine l_e rfl (fun K hK => ?_)
 refine e_call (by kernel_rfl) (out_ok k6 kw6 nd 0 (0 + 1) mb6 oa105 [] oc105 [] hT105 g105 hO105 (by first | omega | (simp only [zll] <;> omega)) _ (St.begin (Γ := [_, _]) hS106)) rfl (after_M (Γ1 := [_, _]) hS106 (fun v108 G108 w108 hv108 hS108 => ?_))
 clear hS106
 obtain ⟨rfl, rfl⟩ := hv108
 have hS109 : St _ _ [.ow 42 5 oa105 ([].length) oc105 (List.flatMap lo []), co k6 kw6 nd 0 (0 + 1) mb6 none [] 0 [], .fz g105] _ := hS108; clear hS108
 refine hK _ _ ?_; clear hK K
 refine l_q rfl rfl (q_assignS rfl) ?_
 refine l_nil ?_
 refine hK107 _ _ ?_
 refine wp_seq_k (fun K110 hK110 => ?_)
 refine wp_seq_k (fun K111 hK111 => ?_)
 refine wp_region_lit ?_
 refine l_q rfl rfl (q_moveI rfl) ?_
 refine l_q rfl rfl (q_eql rfl rfl) ?_
 refine l_nil ?_
 refine hK111 _ _ ?_
 refine c_cond rfl (fun hc112 => ?_) (fun hc112 => ?_)
 have hc112b := hc112
 try simp only [zbb] at hc112
 refine wp_seq_k (fun K113 hK113 => ?_)
 refine wp_region_lit ?_
 refine l_e rfl (fun K hK => ?_)
 refine e_call (by kernel_rfl) (alive13_ok _) rfl (after_R hS109 (fun v114 w114 hv114 hS114 => ?_))
 clear hS109
 obtain rfl := hv114
 refine hK _ _ ?_; clear hK K
 refine l_q rfl rfl (q_moveB rfl) ?_
 refine l_on rfl rfl rfl ?_
 refine l_q rfl rfl (q_moveI rfl) ?_
 refine l_on rfl rfl rfl ?_
 refine l_q rfl rfl (q_eql rfl rfl) ?_
 refine l_q rfl rfl (q_pickT rfl rfl rfl) ?_
 refine l_q rfl rfl (q_moveB rfl) ?_
 refine l_on rfl rfl (by decide) ?_
 refine l_q rfl rfl (q_moveS rfl) ?_
 refine l_on rfl rfl (by decide) ?_
 refine l_q rfl rfl (q_lenSl (e := 42) rfl (by kernel_rfl)) ?_
 refine l_on rfl rfl (by decide) ?_
 refine l_q rfl rfl (q_eql rfl rfl) ?_
 refine l_q rfl rfl (q_pickT rfl (by decide) rfl) ?_
 refine l_q rfl rfl (q_assignB rfl) ?_
 refine l_nil ?_
 refine hK113 _ _ ?_
 refine wp_ret ?_
 refine c_ret1 rfl rfl ?_
 first | exact ⟨_, rfl, rfl, hS114.drop⟩ | exact ⟨_, rfl, congrArg Value.bool (decide_eq_true (by omega)), hS114.drop⟩
 have hc112b := hc112
 try simp only [zbb] at hc112
 exfalso; first | omega | exact hc112 trivial | exact absurd hc112 (by decide)
 refine l_e rfl (fun K hK => ?_)
 refine e_call (by kernel_rfl) (stop_any k6 kw6 nd 0 (0 + 1) mb6 oa2 [] oc2 T hT g2 LOk.nil (by first | omega | (simp only [zll] <;> omega)) nd _ (St.begin (Γ := [_, _]) hS51)) rfl (after_M (Γ1 := [_, _]) hS51 (fun v115 G115 w115 hv115 hS115 => ?_))
 clear hS51
 obtain ⟨a115, oa115, oc115, O115, T115, g115, rfl, rfl, hle115, hO115, hT115, hE115⟩ := hv115
 have hS116 : St _ _ [co k6 kw6 nd 0 (0 + 1) mb6 oa115 O115 oc115 T115, .fz g115] _ := hS115; clear hS115
 refine hK _ _ ?_; clear hK K
 rw [hTT, tk_no (bits_take_ne hu (by omega))] at hE115
 obtain ⟨ea115, eT115, eO115⟩ := val3 hE115 (stop_one rfl)
 subst ea115
 have eN115 := abs_nil eT115
 subst eN115
 have hol115 : O115.length = ns.length := by rw [los_len eO115]; show (sends 6 nd nd (nodesTo u 16) 0).length = _; rw [sends_length, hun]
 refine l_q rfl rfl (q_assignI rfl) ?_
 refine l_nil ?_
 refine hK104 _ _ ?_
 refine wp_seq_k (fun K117 hK117 => ?_)
 refine wp_region_lit ?_
 refine l_q rfl rfl (q_moveP rfl) ?_
 refine l_e rfl (fun K hK => ?_)
 refine e_call (by kernel_rfl) (out_ok k6 kw6 nd 0 (0 + 1) mb6 oa115 O115 oc115 [] hT115 g115 hO115 (by first | omega | (simp only [zll] <;> omega)) _ (St.begin (Γ := [_, _]) hS116)) rfl (after_M (Γ1 := [_, _]) hS116 (fun v118 G118 w118 hv118 hS118 => ?_))
 clear hS116
 obtain ⟨rfl, rfl⟩ := hv118
 have hS119 : St _ _ [.ow 42 5 oa115 O115.length oc115 (List.flatMap lo O115), _, .fz g115] _ := hS118; clear hS118
 refine hK _ _ ?_; clear hK K
 refine l_q rfl rfl (q_assignS rfl) ?_
 refine l_nil ?_
 refine hK117 _ _ ?_
 refine wp_seq_k (fun K120 hK120 => ?_)
 refine wp_seq_k (fun K121 hK121 => ?_)
 refine wp_region_lit ?_
 refine l_q rfl rfl (q_moveI rfl) ?_
 refine l_q rfl rfl (q_eql rfl rfl) ?_
 refine l_nil ?_
 refine hK121 _ _ ?_
 refine c_cond rfl (fun hc122 => ?_) (fun hc122 => ?_)
 have hc122b := hc122
 try simp only [zbb] at hc122
 exfalso; first | omega | exact hc122 trivial | exact absurd hc122 (by decide)
 have hc122b := hc122
 try simp only [zbb] at hc122
 refine wp_skip ?_
 refine hK120 _ _ ?_
 refine wp_seq_k (fun K123 hK123 => ?_)
 refine wp_seq_k (fun K124 hK124 => ?_)
 refine wp_region_lit ?_
 refine l_q rfl rfl (q_assignI rfl) ?_
 refine l_nil ?_
 refine hK124 _ _ ?_
 refine wp_block ?_
 have hS125 := hS119.fr2; clear hS119
 have hS126 := hS125.fr2; clear hS125
 have hS127 : St _ _ [_, .fz g115] _ := hS126.only 2; clear hS126
 refine c_loop (τ := Nat × (Option Addr) × Nat × Gh) [(20, 20), (153, 158)] (fun x => (fun (q : Nat) (oa3 : Option Addr) (oc3 : Nat) (g3 : Gh) => [(20, .int .i64 (q : Int))]) x.1 x.2.1 x.2.2.1 x.2.2.2) (fun x w' => (fun (q : Nat) (oa3 : Option Addr) (oc3 : Nat) (g3 : Gh) => St w (fun _ => False) [co k6 kw6 nd 0 (0 + 1) mb6 oa3 [] oc3 [], .fz g3] w' ∧ q ≤ 10) x.1 x.2.1 x.2.2.1 x.2.2.2) (fun x => (fun (q : Nat) (oa3 : Option Addr) (oc3 : Nat) (g3 : Gh) => 10 - q) x.1 x.2.1 x.2.2.1 x.2.2.2) (⟨0, none, 0, g115⟩) ?_ (by repeat' (first | exact trivial | refine ⟨by first | rfl | exact int_succ _ | assumption, ?_⟩)) (fun x128 j128 w128 hJ128 K128 hK128 => ?_)
 exact ⟨hS127, Nat.zero_le _⟩
 obtain ⟨q, oa3, oc3, g3⟩ := x128
 obtain ⟨hS128, hq⟩ := hJ128
 try dsimp only at hS128 hq ⊢
 refine wp_seq_k (fun K129 hK129 => ?_)
 refine wp_seq_k (fun K130 hK130 => ?_)
 refine wp_region_lit ?_
 refine l_q rfl rfl (q_moveI rfl) ?_
 refine l_q rfl rfl (q_lss rfl rfl) ?_
 refine l_nil ?_
 refine hK130 _ _ ?_
 refine c_cond rfl (fun hc131 => ?_) (fun hc131 => ?_)
 have hc131b := hc131
 try simp only [zbb] at hc131
 refine wp_skip ?_
 refine hK129 _ _ ?_
 refine wp_seq_k (fun K132 hK132 => ?_)
 refine wp_block ?_
 refine wp_region_lit ?_
 refine l_q rfl rfl (q_moveP rfl) ?_
 refine l_e rfl (fun K hK => ?_)
 refine e_call (by kernel_rfl) (tick_ok k6 kw6 nd 0 (0 + 1) mb6 oa3 [] oc3 [] TOk.nil g3 LOk.nil (by first | omega | (simp only [zll] <;> omega)) (by first | omega | (simp only [zll] <;> omega)) _ (St.begin (Γ := [_, _]) hS128)) rfl (after_M (Γ1 := [_, _]) hS128 (fun v133 G133 w133 hv133 hS133 => ?_))
 clear hS128
 obtain ⟨oa133, oc133, O133, T133, g133, rfl, rfl, hle133, hO133, hT133, hab133, hOe133⟩ := hv133
 have hS134 : St _ _ [co k6 kw6 nd 0 (0 + 1) mb6 oa133 O133 oc133 T133, .fz g133] _ := hS133; clear hS133
 refine hK _ _ ?_; clear hK K
 have eN133 := abs_nil (hab133.trans (tick_em nd).1)
 subst eN133
 have eM133 := los_nil (hOe133.trans (tick_em nd).2)
 subst eM133
 refine l_nil ?_
 refine hK132 _ _ ?_
 refine wp_region_lit ?_
 refine l_q rfl rfl (q_moveI rfl) ?_
 refine l_q rfl rfl (q_addx rfl rfl (by first | decide | omega) (by first | decide | omega)) ?_
 refine l_q rfl rfl (q_assignI rfl) ?_
 refine l_nil ?_
 refine hK128 _ _ (came (⟨(q + 1), oa133, oc133, g133⟩) (by repeat' (first | exact Agree.refl _ _ | refine Agree.up ?_ rfl | refine Agree.hav2 ?_ rfl | refine Agree.ups2 ?_ rfl)) (by repeat' (first | exact trivial | refine ⟨by first | rfl | exact int_succ _ | assumption, ?_⟩)) ?_)
 exact ⟨⟨hS134, (by show q + 1 ≤ 10; omega)⟩, by (show 10 - (q + 1) < 10 - q); omega⟩
 have hc131b := hc131
 try simp only [zbb] at hc131
 refine wp_exit ?_
 refine hK123 _ _ ?_
 refine wp_seq_k (fun K135 hK135 => ?_)
 refine wp_region_lit ?_
 refine l_e rfl (fun K hK => ?_)
 refine e_call (by kernel_rfl) (alive13_ok _) rfl (after_R hS128 (fun v136 w136 hv136 hS136 => ?_))
 clear hS128
 obtain rfl := hv136
 refine hK _ _ ?_; clear hK K
 refine l_q rfl rfl (q_moveB rfl) ?_
 refine l_on rfl rfl rfl ?_
 refine l_q rfl rfl (q_moveI rfl) ?_
 refine l_on rfl rfl rfl ?_
 refine l_q rfl rfl (q_eql rfl rfl) ?_
 refine l_q rfl rfl (q_pickT rfl rfl rfl) ?_
 refine l_q rfl rfl (q_moveB rfl) ?_
 refine l_on rfl rfl (by decide) ?_
 refine l_q rfl rfl (q_moveS rfl) ?_
 refine l_on rfl rfl (by decide) ?_
 refine l_q rfl rfl (q_lenSl (e := 42) rfl (by kernel_rfl)) ?_
 refine l_on rfl rfl (by decide) ?_
 refine l_q rfl rfl (q_moveS rfl) ?_
 refine l_on rfl rfl (by decide) ?_
 refine l_q rfl rfl (q_lenSl (e := 3) rfl (by kernel_rfl)) ?_
 refine l_on rfl rfl (by decide) ?_
 refine l_q rfl rfl (q_eql rfl rfl) ?_
 refine l_q rfl rfl (q_pickT rfl (by decide) rfl) ?_
 refine l_q rfl rfl (q_moveB rfl) ?_
 refine g_splitL (t := 171) rfl (fun hg137 => ?_) (fun hg137 => ?_)
 have hg137b := hg137
 try simp only [zbb] at hg137
 refine l_on rfl rfl hg137b ?_
 refine l_q rfl rfl (q_moveP rfl) ?_
 refine l_on rfl rfl hg137b ?_
 refine l_e rfl (fun K hK => ?_)
 refine e_call (by kernel_rfl) (out_ok k6 kw6 nd 0 (0 + 1) mb6 oa3 [] oc3 [] TOk.nil g3 LOk.nil (by first | omega | (simp only [zll] <;> omega)) _ (St.begin (Γ := [_, _]) hS136)) rfl (after_M (Γ1 := [_, _]) hS136 (fun v138 G138 w138 hv138 hS138 => ?_))
 clear hS136
 obtain ⟨rfl, rfl⟩ := hv138
 have hS139 : St _ _ [.ow 42 5 oa3 ([].length) oc3 (List.flatMap lo []), _, .fz g3] _ := hS138; clear hS138
 refine hK _ _ ?_; clear hK K
 refine l_on rfl rfl hg137b ?_
 refine l_q rfl rfl (q_lenSl (e := 42) rfl (by kernel_rfl)) ?_
 refine l_on rfl rfl hg137b ?_
 refine l_q rfl rfl (q_eql rfl rfl) ?_
 refine l_q rfl rfl (q_pickT rfl hg137b rfl) ?_
 refine l_q rfl rfl (q_moveB rfl) ?_
 refine g_splitL (t := 177) rfl (fun hg140 => ?_) (fun hg140 => ?_)
 have hg140b := hg140
 try simp only [zbb] at hg140
 refine l_on rfl rfl hg140b ?_
 refine l_q rfl rfl (q_moveP rfl) ?_
 refine l_on rfl rfl hg140b ?_
 refine l_q rfl rfl (q_moveI rfl) ?_
 refine l_on rfl rfl hg140b ?_
 refine l_e rfl (fun K hK => ?_)
 have hS142 := hS139.fr2; clear hS139
 have hS143 := hS142.fr2; clear hS142
 refine e_call (by kernel_rfl) (state_any k6 kw6 nd 0 (0 + 1) mb6 none [] 0 [] TOk.nil g3 LOk.nil (by first | omega | (simp only [zll] <;> omega)) nd _ (St.begin (Γ := [_, _]) hS143)) rfl (after_M (Γ1 := [_, _]) hS143 (fun v141 G141 w141 hv141 hS141 => ?_))
 clear hS143
 obtain ⟨a141, rfl, rfl, hE141⟩ := hv141
 have hS144 : St _ _ [_, .fz g3, _] _ := hS141; clear hS141
 refine hK _ _ ?_; clear hK K
 have ha141 : a141 = 0 := hE141.symm.trans (sta_nil _)
 subst ha141
 refine l_on rfl rfl hg140b ?_
 refine l_q rfl rfl (q_eql rfl rfl) ?_
 refine l_q rfl rfl (q_pickT rfl hg140b rfl) ?_
 refine l_q rfl rfl (q_assignB rfl) ?_
 refine l_nil ?_
 refine hK135 _ _ ?_
 refine wp_ret ?_
 refine c_ret1 rfl rfl ?_
 first | exact ⟨_, rfl, rfl, hS144.drop⟩ | exact ⟨_, rfl, congrArg Value.bool (decide_eq_true (by omega)), hS144.drop⟩
 have hg140b := hg140
 try simp only [zbb] at hg140
 exfalso; first | omega | exact hg140 trivial | exact absurd hg140 (by decide)
 have hg137b := hg137
 try simp only [zbb] at hg137
 exfalso; first | omega | exact hg137 trivial | exact absurd hg137 (by decide)
 refine l_e rfl (fun K hK => ?_)
 refine e_call (by kernel_rfl) (ask_any k6 kw6 nd 0 (0 + 1) mb6 oa16 [] oc16 [(nd, b16, zeroTx)] hT16 g16 hO16 (by first | omega | (simp only [zll] <;> omega)) nd ns ns.length (by first | omega | (simp only [zll] <;> omega)) (by first | omega | (simp only [zll] <;> omega)) na nc _ _ (St.rogB (Γ1 := [_, _]) hS19) hN (St.begin (Γ := [_, _]) hS19)) rfl (after_M (Γ1 := [_, _]) hS19 (fun v145 G145 w145 hv145 hS145 => ?_))
 clear hS19
 obtain ⟨a145, oa145, oc145, O145, T145, g145, rfl, rfl, hle145, hO145, hT145, hE145⟩ := hv145
 have hS146 : St _ _ [co k6 kw6 nd 0 (0 + 1) mb6 oa145 O145 oc145 T145, .fz g145, _, _] _ := hS145; clear hS145
 have hR145_2 := RsOk.mono hR16_2 hle145
 refine hK _ _ ?_; clear hK K
 obtain ⟨ea145, eT145, eO145⟩ := val3 hE145 (ask_not rfl rfl (by cases h : (ofL ns).2 with | true => exact absurd h hof | false => rfl))
 subst ea145
 obtain ⟨b145, eN145⟩ := abs_one eT145
 subst eN145
 have eM145 := los_nil eO145
 subst eM145
 refine l_q rfl rfl (q_neq rfl rfl) ?_
 refine l_nil ?_
 refine hK21 _ _ ?_
 refine c_condT rfl (by decide) ?_
 refine wp_seq_k (fun K148 hK148 => ?_)
 refine wp_region_lit ?_
 refine l_e rfl (fun K hK => ?_)
 refine e_call (by kernel_rfl) (alive13_ok _) rfl (after_R hS146 (fun v149 w149 hv149 hS149 => ?_))
 clear hS146
 obtain rfl := hv149
 refine hK _ _ ?_; clear hK K
 refine l_q rfl rfl (q_assignB rfl) ?_
 refine l_nil ?_
 refine hK148 _ _ ?_
 refine wp_ret ?_
 refine c_ret1 rfl rfl ?_
 first | exact ⟨_, rfl, rfl, hS149.drop⟩ | exact ⟨_, rfl, congrArg Value.bool (decide_eq_true (by omega)), hS149.drop⟩
 refine l_e rfl (fun K hK => ?_)
 refine e_call (by kernel_rfl) (open_arg nd hnd _ _) rfl (after_R hS5 (fun v150 w150 hv150 hS150 => ?_))
 clear hS5
 obtain rfl := hv150
 refine hK _ _ ?_; clear hK K
 refine l_q rfl rfl (q_move rfl) ?_
 refine l_q rfl rfl (q_extract rfl rfl) ?_
 refine l_q rfl rfl (q_extract rfl rfl) ?_
 refine l_q rfl rfl (q_assignP rfl) ?_
 refine l_q rfl rfl (q_assignI rfl) ?_
 refine l_nil ?_
 refine hK2 _ _ ?_
 refine wp_seq_k (fun K151 hK151 => ?_)
 refine wp_seq_k (fun K152 hK152 => ?_)
 refine wp_region_lit ?_
 refine l_q rfl rfl (q_moveI rfl) ?_
 refine l_q rfl rfl (q_neq rfl rfl) ?_
 refine l_q rfl rfl (q_moveB rfl) ?_
 refine l_off rfl rfl rfl (by decide) ?_
 refine l_off rfl rfl rfl (by decide) ?_
 refine l_q rfl rfl (q_pickT rfl (by decide) rfl) ?_
 refine l_q rfl rfl (q_moveB rfl) ?_
 refine l_off rfl rfl rfl rfl ?_
 refine l_off rfl rfl rfl rfl ?_
 refine l_off rfl rfl rfl rfl ?_
 refine l_q rfl rfl (q_pickT rfl rfl rfl) ?_
 refine l_nil ?_
 refine hK152 _ _ ?_
 refine c_condT rfl rfl ?_
 refine wp_seq_k (fun K154 hK154 => ?_)
 refine wp_region_lit ?_
 refine l_e rfl (fun K hK => ?_)
 refine e_call (by kernel_rfl) (alive13_ok _) rfl (after_R hS150 (fun v155 w155 hv155 hS155 => ?_))
 clear hS150
 obtain rfl := hv155
 refine hK _ _ ?_; clear hK K
 refine l_q rfl rfl (q_moveB rfl) ?_
 refine l_on rfl rfl rfl ?_
 refine l_q rfl rfl (q_moveI rfl) ?_
 refine l_on rfl rfl rfl ?_
 refine l_q rfl rfl (q_eql rfl rfl) ?_
 refine l_on rfl rfl rfl ?_
 refine l_q rfl rfl (q_moveB rfl) ?_
 refine l_on rfl rfl (by decide) ?_
 refine l_q rfl rfl (q_moveI rfl) ?_
 refine l_on rfl rfl (by decide) ?_
 refine l_q rfl rfl (q_eql rfl rfl) ?_
 refine l_on rfl rfl rfl ?_
 refine l_q rfl rfl (q_pickF rfl (by decide) rfl) ?_
 refine l_q rfl rfl (q_pickT rfl rfl rfl) ?_
 refine l_q rfl rfl (q_assignB rfl) ?_
 refine l_nil ?_
 refine hK154 _ _ ?_
 refine wp_ret ?_
 refine c_ret1 rfl rfl ?_
 first | exact ⟨_, rfl, rfl, hS155.drop⟩ | exact ⟨_, rfl, congrArg Value.bool (decide_eq_true (by omega)), hS155.drop⟩
end Go.Proofs.Yteojpdijmnpmgaa
namespace Go.Proofs.Yteojpdijmnpmgaa
open Go.ChangeShapes Go.WideShapes Go.ChangeAt Go.RowKit
set_option maxRecDepth 100000 in
theorem coordinatorTicks_lifted (os : Os) (started : os.Started) (H : Type) (enc : TypeId × Value → H) :
    ReturnsInHanded {} Try.checked os 8 .any (Rows.coordinatorTicksSpec.pre6 enc Try.prog Try.f8 Rows.coordinatorTicksRow.domain false) (Rows.coordinatorTicksSpec.post enc Try.prog Try.f8 false true false false) := by
  refine returnsInHanded_of_change (C := Try.checked) own7 started (by kernel_rfl) Try.func8
    (ChangeSpec.witness6 (enc := enc) (C := Try.checked) false ⟨#[], #[.int .i64 0, .slice none 0 0, .int .i64 0], []⟩ 8 (by kernel_rfl) (by kernel_rfl) (by kernel_rfl) (by kernel_rfl)) ?_
  intro W base args ds gs before hval0 hW hcnd _
  have hval : ∀ (j : Nat) t v, Try.f8.params[j]? = some t → args[j]? = some v → Value.okWide Try.prog W .any base t v := hval0
  have hW' := hW
  obtain ⟨p, q, hA0, hV0, rfl, hfz, hnd⟩ := hW
  have hA : DataW.TrodAll enc Try.prog W 0 (fun _ => true) true Try.f8.params.toList args.toList ds p := hA0
  have hV : DataW.TrodVars enc Try.prog W (fun _ => true) [] gs q := hV0
  rw [Try.params8] at hA hval
  obtain ⟨v0, v1, v2, d0, d1, d2, q0, q1, q2, rfl, rfl, rfl, h0, h1, h2⟩ := trodAll_three hA
  obtain ⟨rfl, rfl⟩ := trodVars_none hV
  obtain ⟨nd, rfl, rfl, rfl, wnd⟩ := open_int Try.underlying3 (hval 0 3 v0 rfl rfl) h0
  have bnd := bnd_i64 wnd
  obtain ⟨sa, sn, sc, rfl⟩ := okWide_slice Try.underlying22 (hval 1 22 v1 rfl rfl)
  obtain ⟨s, hsn, hsG, hsB, hsc⟩ := opn_intsT h1
  subst hsn
  obtain ⟨vt, rfl, rfl, rfl, wvt⟩ := open_int Try.underlying3 (hval 2 3 v2 rfl rfl) h2
  have bvt := bnd_i64 wvt
  clear hA0 hval0
  simp only [List.append_nil] at hW'
  have hlt1 : ∀ x ∈ q1, x.block < W.heap.size := fun x hx => by simpa using hW'.lt x (by simp [hx])
  have e1 : Rows.coordinatorTicksSpec.fn H ([.lit (.int .i64 nd), d1, .lit (.int .i64 vt)] ++ []) = { results := [.lit (.bool true)], args := [.lit (.int .i64 nd), d1, .lit (.int .i64 vt)] } := by simp [Rows.coordinatorTicksSpec]
  refine (ticks_ok nd s sa sc vt bvt.1 W hsG).mono fun e W' hw0 => ?_
  obtain ⟨rr, he, hrr, hSt⟩ := hw0
  subst he hrr
  have hw : Below W.heap.size W W' := hSt.below
  refine ⟨_, rfl, _, _, _, [], [] ++ (q1 ++ []), [], hW', ?_, ?_, ?_, hw.frame _, fun h => by cases h⟩
  · rw [e1]; exact trodAll_mk1 (shut_bool Try.underlying4 true)
  · rw [e1]; exact trodAll_mk3 (shut_int Try.underlying3 wnd) (Below.trod laidOut7 (by kernel_rfl) (of_decide_eq_true (by kernel_rfl)) h1 hw hlt1) (shut_int Try.underlying3 wvt)
  · rw [e1]; rfl

theorem coordinatorTicks_holds : Rows.CoordinatorTicksSaid :=
  OpenClaim.holds_of_wide 8 Try.f8 rfl rfl rfl rfl rfl rfl rfl ⟨rfl, rfl, rfl, rfl, rfl⟩ rfl rfl rfl rfl rfl (by kernel_rfl) Try.func8 (by kernel_rfl)
    (of_decide_eq_true (by kernel_rfl)) (by unfold Func.isWrapper; rw [if_neg (of_decide_eq_false (by kernel_rfl))]; exact ⟨rfl, rfl⟩)
    (fun os started H enc _ => coordinatorTicks_lifted os started H enc)
#print axioms coordinatorTicks_holds
end Go.Proofs.Yteojpdijmnpmgaa
