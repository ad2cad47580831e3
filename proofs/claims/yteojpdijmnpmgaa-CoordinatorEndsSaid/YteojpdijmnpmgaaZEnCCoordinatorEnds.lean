/- CoordinatorEnds: it ends, for every input. No conditions. -/
import Derived.Test.YteojpdijmnpmgaaZEn5
import Derived.Test.YteojpdijmnpmgaaRows
import Derived.ProofKit
set_option linter.unusedVariables false
set_option linter.unusedSimpArgs false
namespace Go.Proofs.Yteojpdijmnpmgaa
open Go.RowKit
attribute [local irreducible] Oper.wp Sem.run Code.wp wpList wpAnyO callFunc execOp Calls
attribute [local irreducible] toU short rencs renc rowE encRow rightB zig unzig decRw rightL risB lastN bitsOf nodesTo readL recB ofL sends getT delT setT waL waE waN waR apL apE decF vot2 votesF doneF hearF tick1 tickT tickO tickQ replayF replayR rdB rdE scan nums hearG askF numB staT pickN cmS yeS
set_option maxHeartbeats 4000000 in
set_option maxRecDepth 100000 in
theorem ends_ok (nd : Int) (ns : List Int) (na : Option Addr) (nc : Nat) (qs : List Int) (qa : Option Addr) (qc : Nat) (hqs : ∀ x ∈ qs, -9223372036854775808 ≤ x) (w : World) (hN : SlG (hw w) na (iv ns)) (hQ : SlG (hw w) qa (iv qs))  : Calls Try.prog 6 #[.int .i64 nd, .slice na ns.length nc, .slice qa qs.length qc] w (PostR w fun v => v = .bool true) := by
 have hS := St.start w
 refine c_enter Try.func6 rfl rfl rfl ?_
 refine wp_seq_k (fun K1 hK1 => ?_)
 refine wp_region_lit ?_
 refine l_q rfl rfl (q_assignB rfl) ?_
 refine l_nil ?_
 refine hK1 _ _ ?_
 refine wp_seq_k (fun K2 hK2 => ?_)
 refine wp_region_lit ?_
 refine l_e rfl (fun K hK => ?_)
 refine e_call (by kernel_rfl) (dNew_ok _) rfl (after_N hS (fun v3 G3 w3 hv3 hS3 => ?_))
 clear hS
 obtain ⟨k3, rfl, rfl⟩ := hv3
 have hS4 : St _ _ [dk k3 none 0 [] 0 0] _ := hS3; clear hS3
 refine hK _ _ ?_; clear hK K
 have hS5 := hS4.fz0; clear hS4
 refine l_q rfl rfl (q_moveI rfl) ?_
 by_cases hnd : 0 ≤ nd ∧ nd < 16
 refine l_e rfl (fun K hK => ?_)
 have hS7 := hS5.fr1; clear hS5
 refine e_call (by kernel_rfl) (open_ok nd hnd _ _ _ [] 0 0 Bytes.nil (by first | omega | (simp only [zll] <;> omega)) (by first | omega | (simp only [zll] <;> omega)) _ (by first | omega | (simp only [zll] <;> omega)) (by rw [scan_nil]; exact Nat.zero_le _) (by rw [scan_nil]; show (replayR [] (0, [])).1 ≤ 65536; rw [replayR_nil]; exact Nat.zero_le _) _ (St.begin (Γ := [_, _]) hS7)) rfl (after_M (Γ1 := [_, _]) hS7 (fun v6 G6 w6 hv6 hS6 => ?_))
 clear hS7
 obtain ⟨k6, kw6, mb6, wa6, wc6, inc6, T6, rs6, da6, dc6, g6, rfl, rfl, hle6, hT6, hst6, hrs6, hrl6⟩ := hv6
 have hS8 : St _ _ [co k6 kw6 nd inc6 0 mb6 none [] 0 T6, wk kw6 k3 wa6 wc6 rs6, dk k3 da6 dc6 (recL ([].take (scan [] 0).2) [0, (inc6 : Int)]) 0 ((recL ([].take (scan [] 0).2) [0, (inc6 : Int)]).length), .fz g6] _ := hS6; clear hS6
 refine hK _ _ ?_; clear hK K
 have hsn0 : scan [] 0 = ([], 0) := scan_nil 0
 rw [hsn0, replayR_nil] at hst6
 have hi0 : inc6 = 0 := congrArg Prod.fst hst6
 have hT0 : T6 = [] := abs_nil (congrArg Prod.snd hst6)
 rw [hsn0] at hrl6
 subst hi0 hT0
 obtain ⟨l0, hl0e⟩ : ∃ l0, l0 = recL [] [0, 0] := ⟨_, rfl⟩
 have hS9 : St _ _ [co k6 kw6 nd 0 0 mb6 none [] 0 [], _, dk k3 da6 dc6 l0 0 l0.length, .fz g6] _ := hS8.cast (by rw [hl0e, hsn0]; rfl); clear hS8
 obtain ⟨hl0, hd0, hlen0⟩ := disk0 hl0e
 have hrl6' : rs6.length ≤ 1 := hrl6
 refine l_q rfl rfl (q_move rfl) ?_
 refine l_q rfl rfl (q_extract rfl rfl) ?_
 refine l_q rfl rfl (q_extract rfl rfl) ?_
 refine l_q rfl rfl (q_assignP rfl) ?_
 refine l_q rfl rfl (q_assignI rfl) ?_
 refine l_nil ?_
 refine hK2 _ _ ?_
 refine wp_seq_k (fun K10 hK10 => ?_)
 refine wp_seq_k (fun K11 hK11 => ?_)
 refine wp_region_lit ?_
 refine l_q rfl rfl (q_moveI rfl) ?_
 refine l_q rfl rfl (q_neq rfl rfl) ?_
 refine l_q rfl rfl (q_moveB rfl) ?_
 refine l_on rfl rfl (by decide) ?_
 refine l_q rfl rfl (q_moveP rfl) ?_
 refine l_on rfl rfl (by decide) ?_
 refine l_q rfl rfl (q_peq rfl (by kernel_rfl)) ?_
 refine l_q rfl rfl (q_pickF rfl (by decide) rfl) ?_
 refine l_q rfl rfl (q_moveB rfl) ?_
 refine l_on rfl rfl rfl ?_
 refine l_q rfl rfl (q_moveS rfl) ?_
 refine l_on rfl rfl rfl ?_
 refine l_q rfl rfl (q_lenSl (e := 3) rfl (by kernel_rfl)) ?_
 refine l_on rfl rfl rfl ?_
 refine l_q rfl rfl (q_gtr rfl rfl) ?_
 refine l_q rfl rfl (q_pickF rfl rfl rfl) ?_
 refine l_nil ?_
 refine hK11 _ _ ?_
 refine c_cond rfl (fun hc12 => ?_) (fun hc12 => ?_)
 have hc12b := hc12
 try simp only [zbb] at hc12
 refine wp_seq_k (fun K13 hK13 => ?_)
 refine wp_region_lit ?_
 refine l_e rfl (fun K hK => ?_)
 refine e_call (by kernel_rfl) (alive13_ok _) rfl (after_R hS9 (fun v14 w14 hv14 hS14 => ?_))
 clear hS9
 obtain rfl := hv14
 refine hK _ _ ?_; clear hK K
 refine l_q rfl rfl (q_moveB rfl) ?_
 refine l_on rfl rfl rfl ?_
 refine l_q rfl rfl (q_moveI rfl) ?_
 refine l_on rfl rfl rfl ?_
 refine l_q rfl rfl (q_eql rfl rfl) ?_
 refine l_on rfl rfl rfl ?_
 refine l_q rfl rfl (q_moveB rfl) ?_
 refine l_off rfl rfl rfl (by decide) ?_
 refine l_off rfl rfl rfl (by decide) ?_
 refine l_on rfl rfl rfl ?_
 refine l_q rfl rfl (q_pickT rfl (by decide) rfl) ?_
 refine l_q rfl rfl (q_pickT rfl rfl rfl) ?_
 refine l_q rfl rfl (q_assignB rfl) ?_
 refine l_nil ?_
 refine hK13 _ _ ?_
 refine wp_ret ?_
 refine c_ret1 rfl rfl ?_
 first | exact ⟨_, rfl, rfl, hS14.drop⟩ | exact ⟨_, rfl, congrArg Value.bool (decide_eq_true (by omega)), hS14.drop⟩
 have hc12b := hc12
 try simp only [zbb] at hc12
 refine wp_skip ?_
 refine hK10 _ _ ?_
 refine wp_seq_k (fun K15 hK15 => ?_)
 refine wp_region_lit ?_
 refine l_q rfl rfl (q_moveP rfl) ?_
 refine l_e rfl (fun K hK => ?_)
 have hS17 := hS9.fr3; clear hS9
 have hS18 := hS17.fr1; clear hS17
 refine e_call (by kernel_rfl) (begin_ok k6 kw6 nd 0 0 mb6 none [] 0 [] TOk.nil g6 LOk.nil (by first | omega | (simp only [zll] <;> omega)) nd (by first | omega | (simp only [zll] <;> omega)) (by first | omega | (simp only [zll] <;> omega)) hnd (numB0 _).symm _ (St.begin (Γ := [_, _]) hS18)) rfl (after_M (Γ1 := [_, _]) hS18 (fun v16 G16 w16 hv16 hS16 => ?_))
 clear hS18
 obtain ⟨oa16, oc16, O16, T16, g16, rfl, rfl, hle16, hO16, hT16, hab16, hOe16⟩ := hv16
 have hS19 : St _ _ [co k6 kw6 nd 0 (0 + 1) mb6 oa16 O16 oc16 T16, .fz g16, _, _] _ := hS16; clear hS16
 have hR16_2 := RsOk.mono hrs6 hle16
 refine hK _ _ ?_; clear hK K
 obtain ⟨b16, eN16⟩ := abs_one (hab16.trans (set_nil _ _))
 subst eN16
 have eM16 := los_nil hOe16
 subst eM16
 refine l_q rfl rfl (q_move rfl) ?_
 refine l_q rfl rfl (q_extract rfl rfl) ?_
 refine l_q rfl rfl (q_extract rfl rfl) ?_
 refine l_q rfl rfl (q_assignI rfl) ?_
 refine l_q rfl rfl (q_assignI rfl) ?_
 refine l_nil ?_
 refine hK15 _ _ ?_
 refine wp_seq_k (fun K20 hK20 => ?_)
 refine wp_seq_k (fun K21 hK21 => ?_)
 refine wp_region_lit ?_
 refine l_q rfl rfl (q_moveP rfl) ?_
 refine l_q rfl rfl (q_moveI rfl) ?_
 refine l_q rfl rfl (q_moveS rfl) ?_
 by_cases hof : (ofL ns).2 = true
 refine l_e rfl (fun K hK => ?_)
 refine e_call (by kernel_rfl) (ask_any k6 kw6 nd 0 (0 + 1) mb6 oa16 [] oc16 [(nd, b16, zeroTx)] hT16 g16 hO16 (by first | omega | (simp only [zll] <;> omega)) nd ns ns.length (by first | omega | (simp only [zll] <;> omega)) (by first | omega | (simp only [zll] <;> omega)) na nc _ _ (St.rogB (Γ1 := [_, _]) hS19) hN (St.begin (Γ := [_, _]) hS19)) rfl (after_M (Γ1 := [_, _]) hS19 (fun v22 G22 w22 hv22 hS22 => ?_))
 clear hS19
 obtain ⟨a22, oa22, oc22, O22, T22, g22, rfl, rfl, hle22, hO22, hT22, hE22⟩ := hv22
 have hS23 : St _ _ [co k6 kw6 nd 0 (0 + 1) mb6 oa22 O22 oc22 T22, .fz g22, _, _] _ := hS22; clear hS22
 have hR22_2 := RsOk.mono hR16_2 hle22
 refine hK _ _ ?_; clear hK K
 obtain ⟨u, hu⟩ : ∃ u, ofL ns = (u, true) := ⟨_, Prod.ext rfl hof⟩
 obtain ⟨hun, hu0, hu1, hnn, hnl, hnp, hnx⟩ := ofL_facts hu
 obtain ⟨ea22, eT22, eO22⟩ := val3 hE22 (ask_one (u := u) rfl rfl hu)
 subst ea22
 have hTT22 : absT T22 = yeS nd ns u 0 := eT22.trans (ye_start hnp).symm
 have hol22 : O22.length ≤ 16 := by rw [los_len eO22, List.length_append, sends_length]; exact hnl0 hun hnl
 refine l_q rfl rfl (q_neq rfl rfl) ?_
 refine l_nil ?_
 refine hK21 _ _ ?_
 refine c_condF rfl (by decide) ?_
 refine wp_skip ?_
 refine hK20 _ _ ?_
 refine wp_seq_k (fun K25 hK25 => ?_)
 refine wp_seq_k (fun K26 hK26 => ?_)
 refine wp_region_lit ?_
 refine l_q rfl rfl (q_assignI rfl) ?_
 refine l_nil ?_
 refine hK26 _ _ ?_
 refine wp_block ?_
 have hS27 := hS23.fr1; clear hS23
 have hS28 := hS27.fr3; clear hS27
 have hS29 := hS28.fr3; clear hS28
 have hS30 := hS29.fr3; clear hS29
 refine c_loop (τ := Nat × (List (Int × Nat × Tx)) × (List Lo) × (Option Addr) × Nat × (Option Addr) × Nat × (List Rc) × (Option Addr) × Nat × (List Nat) × Nat × Gh) [(11, 11), (57, 71)] (fun x => (fun (i : Nat) (T : List (Int × Nat × Tx)) (O : List Lo) (oa : Option Addr) (oc : Nat) (wa : Option Addr) (wc : Nat) (rs : List Rc) (da : Option Addr) (dc : Nat) (l : List Nat) (s : Nat) (g : Gh) => [(11, .int .i64 (i : Int))]) x.1 x.2.1 x.2.2.1 x.2.2.2.1 x.2.2.2.2.1 x.2.2.2.2.2.1 x.2.2.2.2.2.2.1 x.2.2.2.2.2.2.2.1 x.2.2.2.2.2.2.2.2.1 x.2.2.2.2.2.2.2.2.2.1 x.2.2.2.2.2.2.2.2.2.2.1 x.2.2.2.2.2.2.2.2.2.2.2.1 x.2.2.2.2.2.2.2.2.2.2.2.2) (fun x w' => (fun (i : Nat) (T : List (Int × Nat × Tx)) (O : List Lo) (oa : Option Addr) (oc : Nat) (wa : Option Addr) (wc : Nat) (rs : List Rc) (da : Option Addr) (dc : Nat) (l : List Nat) (s : Nat) (g : Gh) => St w (fun _ => False) [co k6 kw6 nd 0 (0 + 1) mb6 oa O oc T, wk kw6 k3 wa wc rs, dk k3 da dc l 0 s, .fz g] w' ∧ i ≤ ns.length ∧ TOk T ∧ absT T = yeS nd ns u i ∧ LOk g O ∧ O.length ≤ 16 + 16 * i ∧ Gle g22 g ∧ RsOk g rs ∧ rs.length ≤ 2 + i ∧ Bytes l ∧ s ≤ l.length ∧ l.length ≤ 3382 * (1 + i)) x.1 x.2.1 x.2.2.1 x.2.2.2.1 x.2.2.2.2.1 x.2.2.2.2.2.1 x.2.2.2.2.2.2.1 x.2.2.2.2.2.2.2.1 x.2.2.2.2.2.2.2.2.1 x.2.2.2.2.2.2.2.2.2.1 x.2.2.2.2.2.2.2.2.2.2.1 x.2.2.2.2.2.2.2.2.2.2.2.1 x.2.2.2.2.2.2.2.2.2.2.2.2) (fun x => (fun (i : Nat) (T : List (Int × Nat × Tx)) (O : List Lo) (oa : Option Addr) (oc : Nat) (wa : Option Addr) (wc : Nat) (rs : List Rc) (da : Option Addr) (dc : Nat) (l : List Nat) (s : Nat) (g : Gh) => ns.length - i) x.1 x.2.1 x.2.2.1 x.2.2.2.1 x.2.2.2.2.1 x.2.2.2.2.2.1 x.2.2.2.2.2.2.1 x.2.2.2.2.2.2.2.1 x.2.2.2.2.2.2.2.2.1 x.2.2.2.2.2.2.2.2.2.1 x.2.2.2.2.2.2.2.2.2.2.1 x.2.2.2.2.2.2.2.2.2.2.2.1 x.2.2.2.2.2.2.2.2.2.2.2.2) (⟨0, T22, O22, oa22, oc22, wa6, wc6, rs6, da6, dc6, l0, l0.length, g22⟩) ?_ (by repeat' (first | exact trivial | refine ⟨by first | rfl | exact int_succ _ | assumption, ?_⟩)) (fun x31 j31 w31 hJ31 K31 hK31 => ?_)
 exact ⟨hS30, Nat.zero_le _, hT22, hTT22, hO22, (by first | omega | (dsimp only; omega)), Gle.refl _, hR22_2, (by first | omega | (dsimp only; omega)), hl0, Nat.le_refl _, hlen0⟩
 obtain ⟨i, T, O, oa, oc, wa, wc, rs, da, dc, l, s, g⟩ := x31
 obtain ⟨hS31, hi, hT, hTT, hO, hOl, hg0, hR, hrn, hl, hsl, hll⟩ := hJ31
 try dsimp only at hS31 hi hT hTT hO hOl hg0 hR hrn hl hsl hll ⊢
 refine wp_seq_k (fun K32 hK32 => ?_)
 refine wp_seq_k (fun K33 hK33 => ?_)
 refine wp_region_lit ?_
 refine l_q rfl rfl (q_moveI rfl) ?_
 refine l_q rfl rfl (q_moveS rfl) ?_
 refine l_q rfl rfl (q_lenSl (e := 3) rfl (by kernel_rfl)) ?_
 refine l_q rfl rfl (q_lss rfl rfl) ?_
 refine l_nil ?_
 refine hK33 _ _ ?_
 refine c_cond rfl (fun hc34 => ?_) (fun hc34 => ?_)
 have hc34b := hc34
 try simp only [zbb] at hc34
 refine wp_skip ?_
 refine hK32 _ _ ?_
 refine wp_seq_k (fun K35 hK35 => ?_)
 refine wp_block ?_
 refine wp_region_lit ?_
 refine l_q rfl rfl (q_moveP rfl) ?_
 refine l_q rfl rfl (q_moveS rfl) ?_
 refine l_q rfl rfl (q_moveI rfl) ?_
 refine l_q rfl rfl (q_ixG (e := 3) (m := 1) (j := i) rfl rfl (by kernel_rfl) (by kernel_rfl) (by first | rfl | omega) (by omega) hN (by rw [iv_len]; first | omega | (simp only [zll] <;> omega))) ?_
 obtain ⟨x36, hx36⟩ : ∃ x, (ns)[i]? = some x := ⟨_, List.getElem?_eq_getElem (by first | omega | (simp only [zll] <;> omega) | (simp <;> omega))⟩
 refine l_q rfl rfl (q_load1 rfl (by kernel_rfl) (SlG.cell (hN.mono hS31.base) (Gle.refl _) (at1 (iv_at hx36)))) ?_
 have hx0 := hnx x36 (List.mem_of_getElem? hx36)
 obtain ⟨m, hm⟩ : ∃ m : Nat, x36 = (m : Int) := ⟨x36.toNat, by omega⟩
 subst hm
 refine l_q rfl rfl (q_moveI rfl) ?_
 refine l_q rfl rfl (q_moveI rfl) ?_
 refine l_q rfl rfl (q_build (ps := [(0, 1), (1, 1), (2, 1), (3, 1), (4, 1)]) (zv := .agg #[.int .i64 0, .int .i64 0, .int .i64 0, .int .i64 0, .slice none 0 0]) (by kernel_rfl) (by kernel_rfl) rfl (by repeat' (first | exact trivial | refine ⟨fun _ => by first | rfl | assumption | exact one_if (by assumption), ?_⟩ | refine ⟨fun ⟨_, h⟩ => by simp at h, ?_⟩)) rfl) ?_
 refine l_e rfl (fun K hK => ?_)
 refine e_call (by kernel_rfl) (hear_any k6 kw6 nd 0 (0 + 1) mb6 oa O oc T hT g hO (by first | omega | (simp only [zll] <;> omega)) k3 wa wc rs da dc l 0 s (by first | omega | (simp only [zll] <;> omega)) hl (by first | omega | (simp only [zll] <;> omega)) (by first | omega | (simp only [zll] <;> omega)) hR (Lr.mk (2 : Int) (m : Int) nd nd []) none 0 0 rfl (by first | omega | (simp only [zll] <;> omega)) _ _ ((fun _ _ e => by cases e) : Rog [_, _, _, _] _ (fun _ => none)) SlG.nil (St.begin (Γ := [_, _, _, _]) hS31)) rfl (after_M (Γ1 := [_, _, _, _]) hS31 (fun v37 G37 w37 hv37 hS37 => ?_))
 clear hS31
 obtain ⟨a37, oa37, oc37, O37, T37, wa37, wc37, rs37, da37, dc37, l37, s37, g37, rfl, rfl, hle37, hO37, hT37, hE37, hrs37, hrl37, hGr37⟩ := hv37
 have hS38 : St _ _ [co k6 kw6 nd 0 (0 + 1) mb6 oa37 O37 oc37 T37, wk kw6 k3 wa37 wc37 rs37, dk k3 da37 dc37 l37 0 s37, .fz g37] _ := hS37; clear hS37
 have hGs37 := hGr37.2.1; have hGl37 := hGr37.2.2.1; have hGm37 := hGr37.2.2.2
 refine hK _ _ ?_; clear hK K
 obtain ⟨Q37, lq37, sq37, hq37, hql37, hqe37⟩ := vote_ye hu hnd hx36 (List.map Lo.l O) (l := l) (by omega) s
 rw [hTT] at hE37
 obtain ⟨ea37, eT37, eO37, el37, es37⟩ := val5 hE37 hq37
 subst ea37
 have hTT37 := eT37.symm.symm
 have hol37 : O37.length ≤ O.length + 16 := by rw [los_len eO37, List.length_append, List.length_map]; omega
 refine l_nil ?_
 refine hK35 _ _ ?_
 refine wp_region_lit ?_
 refine l_q rfl rfl (q_moveI rfl) ?_
 refine l_q rfl rfl (q_addx rfl rfl (by first | decide | omega) (by first | decide | omega)) ?_
 refine l_q rfl rfl (q_assignI rfl) ?_
 refine l_nil ?_
 refine hK31 _ _ (came (⟨(i + 1), T37, O37, oa37, oc37, wa37, wc37, rs37, da37, dc37, l37, s37, g37⟩) (by repeat' (first | exact Agree.refl _ _ | refine Agree.up ?_ rfl | refine Agree.hav2 ?_ rfl | refine Agree.ups2 ?_ rfl)) (by repeat' (first | exact trivial | refine ⟨by first | rfl | exact int_succ _ | assumption, ?_⟩)) ?_)
 exact ⟨⟨hS38, (by show i + 1 ≤ ns.length; omega), hT37, hTT37, hO37, (by first | omega | (dsimp only; omega)), hg0.trans hle37, hrs37, (by first | omega | (dsimp only; omega)), hGr37.1, (by first | omega | (dsimp only; omega)), (by first | omega | (dsimp only; omega))⟩, by (show ns.length - (i + 1) < ns.length - i); omega⟩
 have hc34b := hc34
 try simp only [zbb] at hc34
 refine wp_exit ?_
 refine hK25 _ _ ?_
 refine wp_seq_k (fun K39 hK39 => ?_)
 refine wp_seq_k (fun K40 hK40 => ?_)
 refine wp_region_lit ?_
 refine l_q rfl rfl (q_moveP rfl) ?_
 refine l_q rfl rfl (q_moveI rfl) ?_
 refine l_e rfl (fun K hK => ?_)
 have hS42 := hS31.fr3; clear hS31
 have hS43 := hS42.fr1; clear hS42
 refine e_call (by kernel_rfl) (state_any k6 kw6 nd 0 (0 + 1) mb6 oa O oc T hT g hO (by first | omega | (simp only [zll] <;> omega)) nd _ (St.begin (Γ := [_, _]) hS43)) rfl (after_M (Γ1 := [_, _]) hS43 (fun v41 G41 w41 hv41 hS41 => ?_))
 clear hS43
 obtain ⟨a41, rfl, rfl, hE41⟩ := hv41
 have hS44 : St _ _ [co k6 kw6 nd 0 (0 + 1) mb6 oa O oc T, .fz g, wk kw6 k3 wa wc rs, dk k3 da dc l 0 s] _ := hS41; clear hS41
 refine hK _ _ ?_; clear hK K
 have hiN : i = ns.length := by omega
 have hTA : absT T = [(nd, ⟨u, 0, 0, false, true, u, 0⟩)] := by rw [hTT, hiN, ye_all]
 have ha41 : a41 = 2 := by rw [← hE41, hTA]; exact sta_com rfl
 subst ha41
 refine l_q rfl rfl (q_neq rfl rfl) ?_
 refine l_nil ?_
 refine hK40 _ _ ?_
 refine c_condF rfl (by decide) ?_
 refine wp_skip ?_
 refine hK39 _ _ ?_
 refine wp_seq_k (fun K46 hK46 => ?_)
 refine wp_region_lit ?_
 refine l_e rfl (fun K hK => ?_)
 refine e_buildSlice1 (e := 3) (zv := .int .i64 0) (xs := []) hS44 (by kernel_rfl) (by kernel_rfl) (by kernel_rfl) rfl rfl rfl rfl ((by intro u hu; cases hu)) rfl (fun b47 w47 (hS47 : St _ _ [.blk b47 (.cells #[] 3), _, .fz g, _, _] _) => ?_)
 clear hS44
 have hS47o : St _ _ [.ow 3 1 (some ⟨b47, 0, none⟩) 0 0 (iv []), _, .fz g, _, _] _ := hS47.blkOw' (i := 0) (m := 0) (size := 1) (xs := iv []) rfl rfl rfl (by decide); clear hS47
 refine hK _ _ ?_; clear hK K
 refine l_q rfl rfl (q_moveS rfl) ?_
 refine l_e rfl (fun K hK => ?_)
 refine e_app (e := 3) (size := 1) (bytes := 8) (i := 0) (m' := ns.length) (by kernel_rfl) hS47o rfl rfl rfl (SlG.src (e := 3) (by kernel_rfl) (hN.mono hS47o.base) (by first | (simp only [zll, Nat.mul_one]; done) | (simp only [zll]; omega) | rfl | (simp; done)) (by decide) (iv_one _)) (by first | omega | (simp only [zll] <;> omega) | (simp; done)) rfl (by first | omega | (simp only [maxLen, zll] <;> omega) | (simp only [maxLen]; omega)) (by first | omega | (simp only [zll] <;> omega)) (fun ad48 cp48 w48 (hS48 : St _ _ [.ow 3 1 ad48 ns.length cp48 (iv ns), _, .fz g, _, _] _) => ?_)
 clear hS47o
 refine hK _ _ ?_; clear hK K
 refine l_q rfl rfl (q_assignS rfl) ?_
 refine l_nil ?_
 refine hK46 _ _ ?_
 refine wp_seq_k (fun K49 hK49 => ?_)
 refine wp_seq_k (fun K50 hK50 => ?_)
 have hLk : LeftOk ns := ⟨hnx, (ofL_pair hu).1⟩
 have hTC : absT T = cmS nd u ns 0 := by rw [hTA, cm_some (by intro h; rw [h] at hnp; exact absurd hnp (by decide)), (ofL_pair hu).2.2]
 refine wp_region_lit ?_
 refine l_q rfl rfl (q_assignI rfl) ?_
 refine l_nil ?_
 refine hK50 _ _ ?_
 refine wp_block ?_
 have hS51 := hS48.fr2; clear hS48
 have hS52 := hS51.fr4; clear hS51
 have hS53 := hS52.fr4; clear hS52
 have hS54 := hS53.fr4; clear hS53
 refine c_loop (τ := Nat × (List Int) × (Option Addr) × Nat × (List (Int × Nat × Tx)) × (List Lo) × (Option Addr) × Nat × (Option Addr) × Nat × (List Rc) × (Option Addr) × Nat × (List Nat) × Nat × Gh) [(6, 6), (12, 17), (79, 158)] (fun x => (fun (j : Nat) (L : List Int) (la : Option Addr) (lc : Nat) (T : List (Int × Nat × Tx)) (O2 : List Lo) (oa2 : Option Addr) (oc2 : Nat) (wa : Option Addr) (wc : Nat) (rs : List Rc) (da : Option Addr) (dc : Nat) (l : List Nat) (s : Nat) (g : Gh) => [(13, .int .i64 (j : Int)), (12, .slice la L.length lc)]) x.1 x.2.1 x.2.2.1 x.2.2.2.1 x.2.2.2.2.1 x.2.2.2.2.2.1 x.2.2.2.2.2.2.1 x.2.2.2.2.2.2.2.1 x.2.2.2.2.2.2.2.2.1 x.2.2.2.2.2.2.2.2.2.1 x.2.2.2.2.2.2.2.2.2.2.1 x.2.2.2.2.2.2.2.2.2.2.2.1 x.2.2.2.2.2.2.2.2.2.2.2.2.1 x.2.2.2.2.2.2.2.2.2.2.2.2.2.1 x.2.2.2.2.2.2.2.2.2.2.2.2.2.2.1 x.2.2.2.2.2.2.2.2.2.2.2.2.2.2.2) (fun x w' => (fun (j : Nat) (L : List Int) (la : Option Addr) (lc : Nat) (T : List (Int × Nat × Tx)) (O2 : List Lo) (oa2 : Option Addr) (oc2 : Nat) (wa : Option Addr) (wc : Nat) (rs : List Rc) (da : Option Addr) (dc : Nat) (l : List Nat) (s : Nat) (g : Gh) => St w (fun _ => False) [co k6 kw6 nd 0 (0 + 1) mb6 oa2 O2 oc2 T, wk kw6 k3 wa wc rs, dk k3 da dc l 0 s, .fz g, .ow 3 1 la L.length lc (iv L)] w' ∧ LeftOk L ∧ L.length + j ≤ 16 ∧ TOk T ∧ absT T = cmS nd u L 0 ∧ LOk g O2 ∧ O2.length ≤ 1000 ∧ RsOk g rs ∧ rs.length ≤ 100 + j ∧ Bytes l ∧ s ≤ l.length ∧ l.length ≤ 100000 + 3382 * j) x.1 x.2.1 x.2.2.1 x.2.2.2.1 x.2.2.2.2.1 x.2.2.2.2.2.1 x.2.2.2.2.2.2.1 x.2.2.2.2.2.2.2.1 x.2.2.2.2.2.2.2.2.1 x.2.2.2.2.2.2.2.2.2.1 x.2.2.2.2.2.2.2.2.2.2.1 x.2.2.2.2.2.2.2.2.2.2.2.1 x.2.2.2.2.2.2.2.2.2.2.2.2.1 x.2.2.2.2.2.2.2.2.2.2.2.2.2.1 x.2.2.2.2.2.2.2.2.2.2.2.2.2.2.1 x.2.2.2.2.2.2.2.2.2.2.2.2.2.2.2) (fun x => (fun (j : Nat) (L : List Int) (la : Option Addr) (lc : Nat) (T : List (Int × Nat × Tx)) (O2 : List Lo) (oa2 : Option Addr) (oc2 : Nat) (wa : Option Addr) (wc : Nat) (rs : List Rc) (da : Option Addr) (dc : Nat) (l : List Nat) (s : Nat) (g : Gh) => L.length) x.1 x.2.1 x.2.2.1 x.2.2.2.1 x.2.2.2.2.1 x.2.2.2.2.2.1 x.2.2.2.2.2.2.1 x.2.2.2.2.2.2.2.1 x.2.2.2.2.2.2.2.2.1 x.2.2.2.2.2.2.2.2.2.1 x.2.2.2.2.2.2.2.2.2.2.1 x.2.2.2.2.2.2.2.2.2.2.2.1 x.2.2.2.2.2.2.2.2.2.2.2.2.1 x.2.2.2.2.2.2.2.2.2.2.2.2.2.1 x.2.2.2.2.2.2.2.2.2.2.2.2.2.2.1 x.2.2.2.2.2.2.2.2.2.2.2.2.2.2.2) (⟨0, ns, ad48, cp48, T, O, oa, oc, wa, wc, rs, da, dc, l, s, g⟩) ?_ (by repeat' (first | exact trivial | refine ⟨by first | rfl | exact int_succ _ | assumption, ?_⟩)) (fun x55 j55 w55 hJ55 K55 hK55 => ?_)
 exact ⟨hS54, hLk, (by show ns.length + 0 ≤ 16; omega), hT, hTC, hO, (by first | omega | (dsimp only; omega)), hR, (by first | omega | (dsimp only; omega)), hl, (by first | omega | (dsimp only; omega)), (by first | omega | (dsimp only; omega))⟩
 obtain ⟨j, L, la, lc, T, O2, oa2, oc2, wa, wc, rs, da, dc, l, s, g⟩ := x55
 obtain ⟨hS55, hLk, hLj, hT, hTC, hO2, hO2l, hR, hrn, hl, hsl, hll⟩ := hJ55
 try dsimp only at hS55 hLk hLj hT hTC hO2 hO2l hR hrn hl hsl hll ⊢
 refine wp_seq_k (fun K56 hK56 => ?_)
 refine wp_seq_k (fun K57 hK57 => ?_)
 refine wp_region_lit ?_
 refine l_q rfl rfl (q_moveS rfl) ?_
 refine l_q rfl rfl (q_lenSl (e := 3) rfl (by kernel_rfl)) ?_
 refine l_q rfl rfl (q_gtr rfl rfl) ?_
 refine l_nil ?_
 refine hK57 _ _ ?_
 refine c_cond rfl (fun hc58 => ?_) (fun hc58 => ?_)
 have hc58b := hc58
 try simp only [zbb] at hc58
 refine wp_skip ?_
 refine hK56 _ _ ?_
 refine wp_seq_k (fun K59 hK59 => ?_)
 refine wp_block ?_
 refine wp_seq_k (fun K60 hK60 => ?_)
 refine wp_region_lit ?_
 refine l_q rfl rfl (q_moveP rfl) ?_
 refine l_e rfl (fun K hK => ?_)
 have hS62 := hS55.fr3; clear hS55
 have hS63 := hS62.fr1; clear hS62
 refine e_call (by kernel_rfl) (out_ok k6 kw6 nd 0 (0 + 1) mb6 oa2 O2 oc2 T hT g hO2 (by first | omega | (simp only [zll] <;> omega)) _ (St.begin (Γ := [_, _]) hS63)) rfl (after_M (Γ1 := [_, _]) hS63 (fun v61 G61 w61 hv61 hS61 => ?_))
 clear hS63
 obtain ⟨rfl, rfl⟩ := hv61
 have hS64 : St _ _ [.ow 42 5 oa2 O2.length oc2 (List.flatMap lo O2), co k6 kw6 nd 0 (0 + 1) mb6 none [] 0 T, .fz g, _, _, .ow 3 1 la L.length lc (iv L)] _ := hS61; clear hS61
 refine hK _ _ ?_; clear hK K
 refine l_nil ?_
 refine hK60 _ _ ?_
 refine wp_seq_k (fun K65 hK65 => ?_)
 refine wp_seq_k (fun K66 hK66 => ?_)
 refine wp_region_lit ?_
 refine l_q rfl rfl (q_assignI rfl) ?_
 refine l_nil ?_
 refine hK66 _ _ ?_
 refine wp_block ?_
 have hLp : 0 < L.length := by omega
 have hLne : L ≠ [] := fun h => by rw [h] at hLp; exact absurd hLp (by decide)
 have hS67 := hS64.fr4; clear hS64
 have hS68 := hS67.fr4; clear hS67
 have hS69 := hS68.fr5; clear hS68
 have hS70 := hS69.fr5; clear hS69
 have hS71 := hS70.fr5; clear hS70
 have hS72 : St _ _ [_, .fz g, _, _, _] _ := hS71.only 5; clear hS71
 refine c_loop (τ := Nat × (List (Int × Nat × Tx)) × (List Lo) × (Option Addr) × Nat × Gh) [(14, 14), (86, 91)] (fun x => (fun (q : Nat) (T2 : List (Int × Nat × Tx)) (O3 : List Lo) (oa3 : Option Addr) (oc3 : Nat) (g3 : Gh) => [(14, .int .i64 (q : Int))]) x.1 x.2.1 x.2.2.1 x.2.2.2.1 x.2.2.2.2.1 x.2.2.2.2.2) (fun x w' => (fun (q : Nat) (T2 : List (Int × Nat × Tx)) (O3 : List Lo) (oa3 : Option Addr) (oc3 : Nat) (g3 : Gh) => St w (fun _ => False) [co k6 kw6 nd 0 (0 + 1) mb6 oa3 O3 oc3 T2, .fz g3, .ow 3 1 la L.length lc (iv L), wk kw6 k3 wa wc rs, dk k3 da dc l 0 s] w' ∧ q ≤ 5 ∧ TOk T2 ∧ absT T2 = cmS nd u L (if q < 5 then q else 0) ∧ LOk g3 O3 ∧ (O3.map Lo.l = if q < 5 then [] else sends 5 nd nd L 0) ∧ Gle g g3) x.1 x.2.1 x.2.2.1 x.2.2.2.1 x.2.2.2.2.1 x.2.2.2.2.2) (fun x => (fun (q : Nat) (T2 : List (Int × Nat × Tx)) (O3 : List Lo) (oa3 : Option Addr) (oc3 : Nat) (g3 : Gh) => 5 - q) x.1 x.2.1 x.2.2.1 x.2.2.2.1 x.2.2.2.2.1 x.2.2.2.2.2) (⟨0, T, [], none, 0, g⟩) ?_ (by repeat' (first | exact trivial | refine ⟨by first | rfl | exact int_succ _ | assumption, ?_⟩)) (fun x73 j73 w73 hJ73 K73 hK73 => ?_)
 exact ⟨hS72, Nat.zero_le _, hT, hTC, LOk.nil, rfl, Gle.refl _⟩
 obtain ⟨q, T2, O3, oa3, oc3, g3⟩ := x73
 obtain ⟨hS73, hq, hT2, hTC2, hO3, hOe3, hg3⟩ := hJ73
 try dsimp only at hS73 hq hT2 hTC2 hO3 hOe3 hg3 ⊢
 have hOl3 : O3.length ≤ 16 := by rw [los_len hOe3]; split; exact Nat.zero_le _; rw [sends_length]; omega
 refine wp_seq_k (fun K74 hK74 => ?_)
 refine wp_seq_k (fun K75 hK75 => ?_)
 refine wp_region_lit ?_
 refine l_q rfl rfl (q_moveI rfl) ?_
 refine l_q rfl rfl (q_lss rfl rfl) ?_
 refine l_nil ?_
 refine hK75 _ _ ?_
 refine c_cond rfl (fun hc76 => ?_) (fun hc76 => ?_)
 have hc76b := hc76
 try simp only [zbb] at hc76
 refine wp_skip ?_
 refine hK74 _ _ ?_
 refine wp_seq_k (fun K77 hK77 => ?_)
 refine wp_block ?_
 have hTl : T2.length ≤ 1 := by rw [← absT_len, hTC2]; exact cm_len _ _ _ _
 refine wp_region_lit ?_
 refine l_q rfl rfl (q_moveP rfl) ?_
 refine l_e rfl (fun K hK => ?_)
 refine e_call (by kernel_rfl) (tick_ok k6 kw6 nd 0 (0 + 1) mb6 oa3 O3 oc3 T2 hT2 g3 hO3 (by first | omega | (simp only [zll] <;> omega)) (by first | omega | (simp only [zll] <;> omega)) _ (St.begin (Γ := [_, _]) hS73)) rfl (after_M (Γ1 := [_, _]) hS73 (fun v78 G78 w78 hv78 hS78 => ?_))
 clear hS73
 obtain ⟨oa78, oc78, O78, T78, g78, rfl, rfl, hle78, hO78, hT78, hab78, hOe78⟩ := hv78
 have hS79 : St _ _ [co k6 kw6 nd 0 (0 + 1) mb6 oa78 O78 oc78 T78, .fz g78, _, _, _] _ := hS78; clear hS78
 have hR78_3 := RsOk.mono (RsOk.mono hR hg3) hle78
 refine hK _ _ ?_; clear hK K
 rw [if_pos (show q < 5 by omega)] at hTC2 hOe3
 rw [hTC2] at hab78 hOe78
 rw [hOe3, (tick_cm hLk hLne).2] at hOe78
 rw [(tick_cm hLk hLne).1] at hab78
 have hTD78 : absT T78 = cmS nd u L (if q + 1 < 5 then q + 1 else 0) := hab78
 have hOf78 : O78.map Lo.l = if q + 1 < 5 then [] else sends 5 nd nd L 0 := hOe78
 refine l_nil ?_
 refine hK77 _ _ ?_
 refine wp_region_lit ?_
 refine l_q rfl rfl (q_moveI rfl) ?_
 refine l_q rfl rfl (q_addx rfl rfl (by first | decide | omega) (by first | decide | omega)) ?_
 refine l_q rfl rfl (q_assignI rfl) ?_
 refine l_nil ?_
 refine hK73 _ _ (came (⟨(q + 1), T78, O78, oa78, oc78, g78⟩) (by repeat' (first | exact Agree.refl _ _ | refine Agree.up ?_ rfl | refine Agree.hav2 ?_ rfl | refine Agree.ups2 ?_ rfl)) (by repeat' (first | exact trivial | refine ⟨by first | rfl | exact int_succ _ | assumption, ?_⟩)) ?_)
 exact ⟨⟨hS79, (by show q + 1 ≤ 5; omega), hT78, hTD78, hO78, hOf78, hg3.trans hle78⟩, by (show 5 - (q + 1) < 5 - q); omega⟩
 have hc76b := hc76
 try simp only [zbb] at hc76
 refine wp_exit ?_
 refine hK65 _ _ ?_
 refine wp_seq_k (fun K80 hK80 => ?_)
 have hq5 : q = 5 := by omega
 rw [if_neg (show ¬q < 5 by omega)] at hTC2 hOe3
 have hOl5 : O3.length = L.length := by rw [los_len hOe3, sends_length]
 refine wp_region_lit ?_
 refine l_q rfl rfl (q_moveP rfl) ?_
 refine l_e rfl (fun K hK => ?_)
 refine e_call (by kernel_rfl) (out_ok k6 kw6 nd 0 (0 + 1) mb6 oa3 O3 oc3 T2 hT2 g3 hO3 (by first | omega | (simp only [zll] <;> omega)) _ (St.begin (Γ := [_, _]) hS73)) rfl (after_M (Γ1 := [_, _]) hS73 (fun v81 G81 w81 hv81 hS81 => ?_))
 clear hS73
 obtain ⟨rfl, rfl⟩ := hv81
 have hS82 : St _ _ [.ow 42 5 oa3 O3.length oc3 (List.flatMap lo O3), co k6 kw6 nd 0 (0 + 1) mb6 none [] 0 T2, .fz g3, _, _, _] _ := hS81; clear hS81
 refine hK _ _ ?_; clear hK K
 refine l_q rfl rfl (q_assignS rfl) ?_
 refine l_nil ?_
 refine hK80 _ _ ?_
 refine wp_seq_k (fun K83 hK83 => ?_)
 refine wp_seq_k (fun K84 hK84 => ?_)
 refine wp_region_lit ?_
 refine l_q rfl rfl (q_moveS rfl) ?_
 refine l_q rfl rfl (q_lenSl (e := 42) rfl (by kernel_rfl)) ?_
 refine l_q rfl rfl (q_moveS rfl) ?_
 refine l_q rfl rfl (q_lenSl (e := 3) rfl (by kernel_rfl)) ?_
 refine l_q rfl rfl (q_neq rfl rfl) ?_
 refine l_q rfl rfl (q_moveB rfl) ?_
 refine g_splitL (t := 99) rfl (fun hg85 => ?_) (fun hg85 => ?_)
 have hg85b := hg85
 try simp only [zbb] at hg85
 exfalso; first | omega | exact hg85 trivial | exact absurd hg85 (by decide)
 have hg85b := hg85
 try simp only [zbb] at hg85
 refine l_on rfl rfl hg85b ?_
 refine l_q rfl rfl (q_moveP rfl) ?_
 refine l_on rfl rfl hg85b ?_
 refine l_q rfl rfl (q_moveI rfl) ?_
 refine l_on rfl rfl hg85b ?_
 refine l_e rfl (fun K hK => ?_)
 have hS87 := hS82.fr2; clear hS82
 have hS88 := hS87.fr2; clear hS87
 refine e_call (by kernel_rfl) (state_any k6 kw6 nd 0 (0 + 1) mb6 none [] 0 T2 hT2 g3 LOk.nil (by first | omega | (simp only [zll] <;> omega)) nd _ (St.begin (Γ := [_, _]) hS88)) rfl (after_M (Γ1 := [_, _]) hS88 (fun v86 G86 w86 hv86 hS86 => ?_))
 clear hS88
 obtain ⟨a86, rfl, rfl, hE86⟩ := hv86
 have hS89 : St _ _ [_, .fz g3, _, _, _, _] _ := hS86; clear hS86
 refine hK _ _ ?_; clear hK K
 have ha86 : a86 = 2 := by rw [← hE86, hTC2, cm_some hLne]; exact sta_com rfl
 subst ha86
 refine l_on rfl rfl hg85b ?_
 refine l_q rfl rfl (q_neq rfl rfl) ?_
 refine l_q rfl rfl (q_pickF rfl hg85b rfl) ?_
 refine l_nil ?_
 refine hK84 _ _ ?_
 refine c_condF rfl (by decide) ?_
 refine wp_skip ?_
 refine hK83 _ _ ?_
 refine wp_seq_k (fun K91 hK91 => ?_)
 refine wp_seq_k (fun K92 hK92 => ?_)
 refine wp_region_lit ?_
 refine l_q rfl rfl (q_assignI rfl) ?_
 refine l_nil ?_
 refine hK92 _ _ ?_
 refine wp_block ?_
 refine c_loop (τ := Nat) [(6, 6), (16, 16), (105, 128)] (fun x => (fun (y : Nat) => [(16, .int .i64 (y : Int))]) x) (fun x w' => (fun (y : Nat) => St w (fun _ => False) [co k6 kw6 nd 0 (0 + 1) mb6 none [] 0 T2, .fz g3, .ow 42 5 oa3 O3.length oc3 (List.flatMap lo O3), .ow 3 1 la L.length lc (iv L), wk kw6 k3 wa wc rs, dk k3 da dc l 0 s] w' ∧ y ≤ O3.length) x) (fun x => (fun (y : Nat) => O3.length - y) x) (0) ?_ (by repeat' (first | exact trivial | refine ⟨by first | rfl | exact int_succ _ | assumption, ?_⟩)) (fun y j93 w93 hJ93 K93 hK93 => ?_)
 exact ⟨hS89, Nat.zero_le _⟩
 obtain ⟨hS93, hy⟩ := hJ93
 try dsimp only at hS93 hy ⊢
 refine wp_seq_k (fun K94 hK94 => ?_)
 refine wp_seq_k (fun K95 hK95 => ?_)
 refine wp_region_lit ?_
 refine l_q rfl rfl (q_moveI rfl) ?_
 refine l_q rfl rfl (q_moveS rfl) ?_
 refine l_q rfl rfl (q_lenSl (e := 42) rfl (by kernel_rfl)) ?_
 refine l_q rfl rfl (q_lss rfl rfl) ?_
 refine l_nil ?_
 refine hK95 _ _ ?_
 refine c_cond rfl (fun hc96 => ?_) (fun hc96 => ?_)
 have hc96b := hc96
 try simp only [zbb] at hc96
 refine wp_skip ?_
 refine hK94 _ _ ?_
 refine wp_seq_k (fun K97 hK97 => ?_)
 refine wp_block ?_
 refine wp_seq_k (fun K98 hK98 => ?_)
 refine r_any (by kernel_rfl) hS93 (fun w99 hS99 => ?_)
 clear hS93
 refine o_pure (i := 0) (fun _ _ => trivial) rfl rfl (by kernel_rfl) (goes0 rfl) (QOk.then (QOk.inBlock (QOk.then (QOk.then (QOk.inBlock (QOk.then (QOk.inBlock (QOk.then (QOk.then (QOk.inBlock (QOk.then QOk.body))))))))))) (fun w => q_moveS rfl) ?_
 refine o_pure (i := 1) (fun _ _ => trivial) rfl rfl (by kernel_rfl) (goes0 rfl) (QOk.then (QOk.inBlock (QOk.then (QOk.then (QOk.inBlock (QOk.then (QOk.inBlock (QOk.then (QOk.then (QOk.inBlock (QOk.then QOk.body))))))))))) (fun w => q_moveI rfl) ?_
 refine o_pure (i := 2) (fun _ _ => trivial) rfl rfl (by kernel_rfl) (goes0 rfl) (QOk.then (QOk.inBlock (QOk.then (QOk.then (QOk.inBlock (QOk.then (QOk.inBlock (QOk.then (QOk.then (QOk.inBlock (QOk.then QOk.body))))))))))) (fun w => q_ixG (e := 42) (m := 5) (j := y) rfl rfl (by kernel_rfl) (by kernel_rfl) (by first | rfl | omega) (by omega) (hS99.owG (i := 2) rfl) (by rw [rows_len (c := lo) (m := 5) (fun _ => rfl)]; first | omega | (simp only [zll] <;> omega))) ?_
 refine o_pure (i := 3) (fun _ _ => trivial) rfl rfl (by kernel_rfl) (goes0 rfl) (QOk.then (QOk.inBlock (QOk.then (QOk.then (QOk.inBlock (QOk.then (QOk.inBlock (QOk.then (QOk.then (QOk.inBlock (QOk.then QOk.body))))))))))) (fun w => q_fieldG (ft := 40) (o := 0) rfl (by kernel_rfl)) ?_
 obtain ⟨x100, hx100⟩ : ∃ x, (O3)[y]? = some x := ⟨_, List.getElem?_eq_getElem (by first | omega | (simp only [zll] <;> omega) | (simp <;> omega))⟩
 have hlx_x100 := (hO3 x100 (List.mem_of_getElem? hx100)).2
 refine o_held (i := 4) [5, 6, 7, 8, 9, 10, 11, 12, 13, 14, 15, 16, 17] (fun _ _ => trivial) rfl rfl (by kernel_rfl) (goes0 rfl) (QOk.then (QOk.inBlock (QOk.then (QOk.then (QOk.inBlock (QOk.then (QOk.inBlock (QOk.then (QOk.then (QOk.inBlock (QOk.then QOk.body))))))))))) (q_load1 rfl (by kernel_rfl) (SlG.cell (hS99.owG (i := 2) rfl) (Gle.refl _) (row_at hx100 (c := lo) (m := 5) (fun _ => rfl) (j := 0) rfl))) ?_
 have hlx := los_at hOe3 hx100
 obtain ⟨v, hv, hve⟩ := sends_get hlx
 have hlk : x100.l.k = 5 := by rw [hve]
 have hlt : x100.l.t = v := by rw [hve]
 refine o_pure (i := 5) (fun j w => ⟨(fun _ _ => trivial) j w, fun _ h => h⟩) rfl rfl (by kernel_rfl) (goes0 rfl) (QOk.then (QOk.inBlock (QOk.then (QOk.then (QOk.inBlock (QOk.then (QOk.inBlock (QOk.then (QOk.then (QOk.inBlock (QOk.then QOk.body))))))))))) (fun w => q_neq rfl rfl) ?_
 refine o_pure (i := 6) (fun j w => ⟨(fun _ _ => trivial) j w, fun _ h => h⟩) rfl rfl (by kernel_rfl) (goes0 rfl) (QOk.then (QOk.inBlock (QOk.then (QOk.then (QOk.inBlock (QOk.then (QOk.inBlock (QOk.then (QOk.then (QOk.inBlock (QOk.then QOk.body))))))))))) (fun w => q_moveB rfl) ?_
 refine g_splitO (t := 117) rfl (fun hg101 => ?_) (fun hg101 => ?_)
 have hg101b := hg101
 try simp only [zbb] at hg101
 exfalso; first | omega | exact hg101 trivial | exact absurd hg101 (by decide)
 have hg101b := hg101
 try simp only [zbb] at hg101
 refine o_pure (i := 7) (fun j w => ⟨(fun _ _ => trivial) j w, fun _ h => h⟩) rfl rfl (by kernel_rfl) (goes1 rfl rfl hg101b) (QOk.then (QOk.inBlock (QOk.then (QOk.then (QOk.inBlock (QOk.then (QOk.inBlock (QOk.then (QOk.then (QOk.inBlock (QOk.then QOk.body))))))))))) (fun w => q_moveS rfl) ?_
 refine o_pure (i := 8) (fun j w => ⟨(fun _ _ => trivial) j w, fun _ h => h⟩) rfl rfl (by kernel_rfl) (goes1 rfl rfl hg101b) (QOk.then (QOk.inBlock (QOk.then (QOk.then (QOk.inBlock (QOk.then (QOk.inBlock (QOk.then (QOk.then (QOk.inBlock (QOk.then QOk.body))))))))))) (fun w => q_moveI rfl) ?_
 refine o_pure (i := 9) (fun j w => ⟨(fun _ _ => trivial) j w, fun _ h => h⟩) rfl rfl (by kernel_rfl) (goes1 rfl rfl hg101b) (QOk.then (QOk.inBlock (QOk.then (QOk.then (QOk.inBlock (QOk.then (QOk.inBlock (QOk.then (QOk.then (QOk.inBlock (QOk.then QOk.body))))))))))) (fun w => q_ixG (e := 42) (m := 5) (j := y) rfl rfl (by kernel_rfl) (by kernel_rfl) (by first | rfl | omega) (by omega) (hS99.owG (i := 2) rfl) (by rw [rows_len (c := lo) (m := 5) (fun _ => rfl)]; first | omega | (simp only [zll] <;> omega))) ?_
 refine o_pure (i := 10) (fun j w => ⟨(fun _ _ => trivial) j w, fun _ h => h⟩) rfl rfl (by kernel_rfl) (goes1 rfl rfl hg101b) (QOk.then (QOk.inBlock (QOk.then (QOk.then (QOk.inBlock (QOk.then (QOk.inBlock (QOk.then (QOk.then (QOk.inBlock (QOk.then QOk.body))))))))))) (fun w => q_fieldG (ft := 3) (o := 2) rfl (by kernel_rfl)) ?_
 refine o_held (i := 11) [16, 17] (fun j w => ⟨(fun _ _ => trivial) j w, fun _ h => h⟩) rfl rfl (by kernel_rfl) (goes1 rfl rfl hg101b) (QOk.then (QOk.inBlock (QOk.then (QOk.then (QOk.inBlock (QOk.then (QOk.inBlock (QOk.then (QOk.then (QOk.inBlock (QOk.then QOk.body))))))))))) (q_load1 rfl (by kernel_rfl) (SlG.cell (hS99.owG (i := 2) rfl) (Gle.refl _) (row_at hx100 (c := lo) (m := 5) (fun _ => rfl) (j := 2) rfl))) ?_
 refine o_pure (i := 12) (fun j w => ⟨(fun j w => ⟨(fun _ _ => trivial) j w, fun _ h => h⟩) j w, fun _ h => h⟩) rfl rfl (by kernel_rfl) (goes1 rfl rfl hg101b) (QOk.then (QOk.inBlock (QOk.then (QOk.then (QOk.inBlock (QOk.then (QOk.inBlock (QOk.then (QOk.then (QOk.inBlock (QOk.then QOk.body))))))))))) (fun w => q_moveS rfl) ?_
 refine o_pure (i := 13) (fun j w => ⟨(fun j w => ⟨(fun _ _ => trivial) j w, fun _ h => h⟩) j w, fun _ h => h⟩) rfl rfl (by kernel_rfl) (goes1 rfl rfl hg101b) (QOk.then (QOk.inBlock (QOk.then (QOk.then (QOk.inBlock (QOk.then (QOk.inBlock (QOk.then (QOk.then (QOk.inBlock (QOk.then QOk.body))))))))))) (fun w => q_moveI rfl) ?_
 refine o_pure (i := 14) (fun j w => ⟨(fun j w => ⟨(fun _ _ => trivial) j w, fun _ h => h⟩) j w, fun _ h => h⟩) rfl rfl (by kernel_rfl) (goes1 rfl rfl hg101b) (QOk.then (QOk.inBlock (QOk.then (QOk.then (QOk.inBlock (QOk.then (QOk.inBlock (QOk.then (QOk.then (QOk.inBlock (QOk.then QOk.body))))))))))) (fun w => q_ixG (e := 3) (m := 1) (j := y) rfl rfl (by kernel_rfl) (by kernel_rfl) (by first | rfl | omega) (by omega) (hS99.owG (i := 3) rfl) (by rw [iv_len]; first | omega | (simp only [zll] <;> omega))) ?_
 obtain ⟨x102, hx102⟩ : ∃ x, (L)[y]? = some x := ⟨_, List.getElem?_eq_getElem (by first | omega | (simp only [zll] <;> omega) | (simp <;> omega))⟩
 refine o_held (i := 15) [16, 17] (fun j w => ⟨(fun j w => ⟨(fun _ _ => trivial) j w, fun _ h => h⟩) j w, fun _ h => h⟩) rfl rfl (by kernel_rfl) (goes1 rfl rfl hg101b) (QOk.then (QOk.inBlock (QOk.then (QOk.then (QOk.inBlock (QOk.then (QOk.inBlock (QOk.then (QOk.then (QOk.inBlock (QOk.then QOk.body))))))))))) (q_load1 rfl (by kernel_rfl) (SlG.cell (hS99.owG (i := 3) rfl) (Gle.refl _) (at1 (iv_at hx102)))) ?_
 have hvx : v = x102 := by rw [hx102] at hv; exact (Option.some.inj hv).symm
 refine o_pure (i := 16) (fun j w => ⟨(fun j w => ⟨(fun j w => ⟨(fun _ _ => trivial) j w, fun _ h => h⟩) j w, fun _ h => h⟩) j w, fun _ h => h⟩) rfl rfl (by kernel_rfl) (goes1 rfl rfl hg101b) (QOk.then (QOk.inBlock (QOk.then (QOk.then (QOk.inBlock (QOk.then (QOk.inBlock (QOk.then (QOk.then (QOk.inBlock (QOk.then QOk.body))))))))))) (fun w => q_neq rfl rfl) ?_
 refine o_pure (i := 17) (fun j w => ⟨(fun j w => ⟨(fun j w => ⟨(fun _ _ => trivial) j w, fun _ h => h⟩) j w, fun _ h => h⟩) j w, fun _ h => h⟩) rfl rfl (by kernel_rfl) (goes0 rfl) (QOk.then (QOk.inBlock (QOk.then (QOk.then (QOk.inBlock (QOk.then (QOk.inBlock (QOk.then (QOk.then (QOk.inBlock (QOk.then QOk.body))))))))))) (fun w => q_pickF rfl hg101b rfl) ?_
 refine o_done (by kernel_rfl) ?_
 refine hK98 _ _ ?_
 refine c_cond rfl (fun hc103 => ?_) (fun hc103 => ?_)
 have hc103b := hc103
 try simp only [zbb] at hc103
 exfalso; first | omega | exact hc103 trivial | exact absurd hc103 (by decide)
 have hc103b := hc103
 try simp only [zbb] at hc103
 refine wp_skip ?_
 refine hK97 _ _ ?_
 refine wp_region_lit ?_
 refine l_q rfl rfl (q_moveI rfl) ?_
 refine l_q rfl rfl (q_addx rfl rfl (by first | decide | omega) (by first | decide | omega)) ?_
 refine l_q rfl rfl (q_assignI rfl) ?_
 refine l_nil ?_
 refine hK93 _ _ (came ((y + 1)) (by repeat' (first | exact Agree.refl _ _ | refine Agree.up ?_ rfl | refine Agree.hav2 ?_ rfl | refine Agree.ups2 ?_ rfl)) (by repeat' (first | exact trivial | refine ⟨by first | rfl | exact int_succ _ | assumption, ?_⟩)) ?_)
 exact ⟨⟨hS99, (by show y + 1 ≤ O3.length; omega)⟩, by (show O3.length - (y + 1) < O3.length - y); omega⟩
 have hc96b := hc96
 try simp only [zbb] at hc96
 refine wp_exit ?_
 refine hK91 _ _ ?_
 refine wp_seq_k (fun K104 hK104 => ?_)
 refine wp_region_lit ?_
 refine l_q rfl rfl (q_assignI rfl) ?_
 refine l_nil ?_
 refine hK104 _ _ ?_
 refine c_cut (τ := Nat) [(17, 17), (129, 139)] (fun x => (fun (k : Nat) => [(17, .int .i64 (k : Int))]) x) (fun x w' => (fun (k : Nat) => St w (fun _ => False) [co k6 kw6 nd 0 (0 + 1) mb6 none [] 0 T2, .fz g3, .ow 42 5 oa3 O3.length oc3 (List.flatMap lo O3), .ow 3 1 la L.length lc (iv L), wk kw6 k3 wa wc rs, dk k3 da dc l 0 s] w' ∧ k < L.length) x) (fun K106 hK106 => ?_) (fun k j106 w106 hJ106 => ?_)
 refine wp_seq_k (fun K107 hK107 => ?_)
 refine wp_region_lit ?_
 refine l_q rfl rfl (q_moveI rfl) ?_
 refine l_q rfl rfl (q_moveS rfl) ?_
 refine l_q rfl rfl (q_lenSl (e := 3) rfl (by kernel_rfl)) ?_
 refine l_q rfl rfl (q_lss rfl rfl) ?_
 refine l_nil ?_
 refine hK107 _ _ ?_
 refine c_cond rfl (fun hc108 => ?_) (fun hc108 => ?_)
 have hc108b := hc108
 try simp only [zbb] at hc108
 refine wp_region_lit ?_
 refine l_q rfl rfl (q_moveS rfl) ?_
 refine l_q rfl rfl (q_moveI rfl) ?_
 refine l_q rfl rfl (q_ixG (e := 3) (m := 1) (j := j) rfl rfl (by kernel_rfl) (by kernel_rfl) (by first | rfl | omega) (by omega) hQ (by rw [iv_len]; first | omega | (simp only [zll] <;> omega))) ?_
 obtain ⟨x109, hx109⟩ : ∃ x, (qs)[j]? = some x := ⟨_, List.getElem?_eq_getElem (by first | omega | (simp only [zll] <;> omega) | (simp <;> omega))⟩
 refine l_q rfl rfl (q_load1 rfl (by kernel_rfl) (SlG.cell (hQ.mono hS93.base) (Gle.refl _) (at1 (iv_at hx109)))) ?_
 have hqx := hqs x109 (List.mem_of_getElem? hx109)
 refine l_q rfl rfl (q_moveS rfl) ?_
 refine l_q rfl rfl (q_lenSl (e := 3) rfl (by kernel_rfl)) ?_
 refine l_e rfl (fun K hK => ?_)
 refine e_call (by kernel_rfl) (pick13_ok x109 L.length (by first | omega | (simp only [zll] <;> omega)) (by first | omega | (simp only [zll] <;> omega)) _) rfl (after_R hS93 (fun v110 w110 hv110 hS110 => ?_))
 clear hS93
 obtain rfl := hv110
 have hpk110 := pickN_lt x109 (n := L.length) (by omega)
 refine hK _ _ ?_; clear hK K
 refine l_q rfl rfl (q_assignI rfl) ?_
 refine l_nil ?_
 refine hK106 _ _ (came ((pickN x109 L.length)) (by repeat' (first | exact Agree.refl _ _ | refine Agree.up ?_ rfl | refine Agree.hav2 ?_ rfl | refine Agree.ups2 ?_ rfl)) (by repeat' (first | exact trivial | refine ⟨by first | rfl | exact int_succ _ | assumption, ?_⟩)) ?_)
 exact ⟨hS110, by omega⟩
 have hc108b := hc108
 try simp only [zbb] at hc108
 refine wp_skip ?_
 refine hK106 _ _ (came (0) (by repeat' (first | exact Agree.refl _ _ | refine Agree.up ?_ rfl | refine Agree.hav2 ?_ rfl | refine Agree.ups2 ?_ rfl)) (by repeat' (first | exact trivial | refine ⟨by first | rfl | exact int_succ _ | assumption, ?_⟩)) ?_)
 exact ⟨hS93, by omega⟩
 obtain ⟨hS106, hk⟩ := hJ106
 try dsimp only at hS106 hk ⊢
 refine wp_seq_k (fun K111 hK111 => ?_)
 refine wp_region_lit ?_
 refine l_q rfl rfl (q_moveP rfl) ?_
 refine l_q rfl rfl (q_moveS rfl) ?_
 refine l_q rfl rfl (q_moveI rfl) ?_
 refine l_q rfl rfl (q_ixG (e := 3) (m := 1) (j := k) rfl rfl (by kernel_rfl) (by kernel_rfl) (by first | rfl | omega) (by omega) (hS106.owG (i := 3) rfl) (by rw [iv_len]; first | omega | (simp only [zll] <;> omega))) ?_
 obtain ⟨x112, hx112⟩ : ∃ x, (L)[k]? = some x := ⟨_, List.getElem?_eq_getElem (by first | omega | (simp only [zll] <;> omega) | (simp <;> omega))⟩
 refine l_q rfl rfl (q_load1 rfl (by kernel_rfl) (SlG.cell (hS106.owG (i := 3) rfl) (Gle.refl _) (at1 (iv_at hx112)))) ?_
 have hx0 := hLk.1 x112 (List.mem_of_getElem? hx112)
 obtain ⟨m, hm⟩ : ∃ m : Nat, x112 = (m : Int) := ⟨x112.toNat, by omega⟩
 subst hm
 refine l_q rfl rfl (q_moveI rfl) ?_
 refine l_q rfl rfl (q_moveI rfl) ?_
 refine l_q rfl rfl (q_build (ps := [(0, 1), (1, 1), (2, 1), (3, 1), (4, 1)]) (zv := .agg #[.int .i64 0, .int .i64 0, .int .i64 0, .int .i64 0, .slice none 0 0]) (by kernel_rfl) (by kernel_rfl) rfl (by repeat' (first | exact trivial | refine ⟨fun _ => by first | rfl | assumption | exact one_if (by assumption), ?_⟩ | refine ⟨fun ⟨_, h⟩ => by simp at h, ?_⟩)) rfl) ?_
 refine l_e rfl (fun K hK => ?_)
 have hS114 := hS106.fr1; clear hS106
 have hS115 := hS114.fr5; clear hS114
 have hS116 := hS115.fr5; clear hS115
 have hS117 := hS116.fr3; clear hS116
 refine e_call (by kernel_rfl) (hear_any k6 kw6 nd 0 (0 + 1) mb6 none [] 0 T2 hT2 g3 LOk.nil (by first | omega | (simp only [zll] <;> omega)) k3 wa wc rs da dc l 0 s (by first | omega | (simp only [zll] <;> omega)) hl (by first | omega | (simp only [zll] <;> omega)) (by first | omega | (simp only [zll] <;> omega)) (RsOk.mono hR hg3) (Lr.mk (7 : Int) (m : Int) nd nd []) none 0 0 rfl (by first | omega | (simp only [zll] <;> omega)) _ _ ((fun _ _ e => by cases e) : Rog [_, _, _, _] _ (fun _ => none)) SlG.nil (St.begin (Γ := [_, _, _, _]) hS117)) rfl (after_M (Γ1 := [_, _, _, _]) hS117 (fun v113 G113 w113 hv113 hS113 => ?_))
 clear hS117
 obtain ⟨a113, oa113, oc113, O113, T113, wa113, wc113, rs113, da113, dc113, l113, s113, g113, rfl, rfl, hle113, hO113, hT113, hE113, hrs113, hrl113, hGr113⟩ := hv113
 have hS118 : St _ _ [co k6 kw6 nd 0 (0 + 1) mb6 oa113 O113 oc113 T113, wk kw6 k3 wa113 wc113 rs113, dk k3 da113 dc113 l113 0 s113, .fz g113, _, _] _ := hS113; clear hS113
 have hGs113 := hGr113.2.1; have hGl113 := hGr113.2.2.1; have hGm113 := hGr113.2.2.2
 refine hK _ _ ?_; clear hK K
 rw [hTC2] at hE113
 obtain ⟨ea113, eT113, eO113, el113, es113⟩ := val5 hE113 (hear_done hLk hx112 (by omega) hnd _ (by omega) _)
 subst ea113
 have hTC113 := eT113.symm.symm
 have eM113 := los_nil eO113
 subst eM113
 refine l_nil ?_
 refine hK111 _ _ ?_
 refine r_any (by kernel_rfl) hS118 (fun w119 hS119 => ?_)
 clear hS118
 refine o_pure (i := 1) (fun _ _ => trivial) rfl rfl (by kernel_rfl) (goes0 rfl) (QOk.inBlock (QOk.then (QOk.then (QOk.inBlock (QOk.then QOk.body))))) (fun w => q_moveS rfl) ?_
 refine o_pure (i := 2) (fun _ _ => trivial) rfl rfl (by kernel_rfl) (goes0 rfl) (QOk.inBlock (QOk.then (QOk.then (QOk.inBlock (QOk.then QOk.body))))) (fun w => q_moveI rfl) ?_
 have hcp120 := (hS119.owLen (i := 5) rfl).2.1
 refine o_pure (i := 3) (fun _ _ => trivial) rfl rfl (by kernel_rfl) (goes0 rfl) (QOk.inBlock (QOk.then (QOk.then (QOk.inBlock (QOk.then QOk.body))))) (fun w => q_sliceX (e := 3) (size := 1) (l := 0) (h := k) (m := lc) (ad' := la) (len' := k) (cap' := lc) rfl (by kernel_rfl) (by kernel_rfl) rfl ⟨_, int_nat (by first | rfl | omega) rfl⟩ rfl (by omega) (by first | omega | (simp only [zll] <;> omega)) (by first | omega | (simp only [zll] <;> omega)) rfl subS_zero (Nat.sub_zero _) (Nat.sub_zero _)) ?_
 refine o_pure (i := 5) (fun _ _ => trivial) rfl rfl (by kernel_rfl) (goes0 rfl) (QOk.inBlock (QOk.then (QOk.then (QOk.inBlock (QOk.then QOk.body))))) (fun w => q_moveS rfl) ?_
 refine o_pure (i := 6) (fun _ _ => trivial) rfl rfl (by kernel_rfl) (goes0 rfl) (QOk.inBlock (QOk.then (QOk.then (QOk.inBlock (QOk.then QOk.body))))) (fun w => q_moveI rfl) ?_
 refine o_pure (i := 7) (fun _ _ => trivial) rfl rfl (by kernel_rfl) (goes0 rfl) (QOk.inBlock (QOk.then (QOk.then (QOk.inBlock (QOk.then QOk.body))))) (fun w => q_addx rfl rfl (by first | decide | omega) (by first | decide | omega)) ?_
 refine o_pure (i := 8) (fun _ _ => trivial) rfl rfl (by kernel_rfl) (goes0 rfl) (QOk.inBlock (QOk.then (QOk.then (QOk.inBlock (QOk.then QOk.body))))) (fun w => q_sliceX (e := 3) (size := 1) (l := (k + 1)) (h := L.length) (m := lc) (ad' := (subS la (k + 1) 1 lc)) (len' := (L.length - (k + 1))) (cap' := (lc - (k + 1))) rfl (by kernel_rfl) (by kernel_rfl) rfl rfl ⟨_, int_nat (by first | rfl | omega) rfl⟩ (by omega) (by first | omega | (simp only [zll] <;> omega)) (by first | omega | (simp only [zll] <;> omega)) rfl rfl rfl rfl) ?_
 refine o_eff (i := 0) (by kernel_rfl) rfl (goes0 rfl) (fun K hK => ?_)
 refine e_buildSlice1 (e := 3) (zv := .int .i64 0) (xs := []) hS119 (by kernel_rfl) (by kernel_rfl) (by kernel_rfl) rfl rfl rfl rfl ((by intro u hu; cases hu)) rfl (fun b121 w121 (hS121 : St _ _ [.blk b121 (.cells #[] 3), co k6 kw6 nd 0 (0 + 1) mb6 oa113 [] oc113 T113, _, _, .fz g113, _, _] _) => ?_)
 clear hS119
 have hS121o : St _ _ [.ow 3 1 (some ⟨b121, 0, none⟩) 0 0 (iv []), _, _, _, .fz g113, _, _] _ := hS121.blkOw' (i := 0) (m := 0) (size := 1) (xs := iv []) rfl rfl rfl (by decide); clear hS121
 refine hK _ _ trivial ?_; clear hK K
 refine o_eff (i := 4) (by kernel_rfl) rfl (goes0 rfl) (fun K hK => ?_)
 refine e_app (e := 3) (size := 1) (bytes := 8) (i := 0) (m' := k) (by kernel_rfl) hS121o rfl rfl rfl (SlG.src (e := 3) (by kernel_rfl) ((fun q => (iv_takeG (n := k) q)) (hS121o.owG (i := 6) rfl)) (by first | (simp only [zll, Nat.mul_one]; done) | (simp only [zll]; omega) | rfl | (simp; done)) (by decide) (iv_one _)) (by first | omega | (simp only [zll] <;> omega) | (simp; done)) rfl (by first | omega | (simp only [maxLen, zll] <;> omega) | (simp only [maxLen]; omega)) (by first | omega | (simp only [zll] <;> omega)) (fun ad122 cp122 w122 (hS122 : St _ _ [.ow 3 1 ad122 k cp122 (iv (L.take k)), _, _, _, .fz g113, _, _] _) => ?_)
 clear hS121o
 refine hK _ _ trivial ?_; clear hK K
 refine o_eff (i := 9) (by kernel_rfl) rfl (goes0 rfl) (fun K hK => ?_)
 refine e_app (e := 3) (size := 1) (bytes := 8) (i := 0) (m' := (k + (L.length - (k + 1)))) (by kernel_rfl) hS122 rfl rfl rfl (SlG.src (e := 3) (by kernel_rfl) ((fun q => (iv_subD (by first | omega | (simp only [zll] <;> omega)) (SlG.sub (l := (k + 1)) (size := 1) (m := lc) (n := L.length - (k + 1)) q (by first | omega | (simp only [zll] <;> omega)) (by decide)))) (hS122.owG (i := 6) rfl)) (by first | (simp only [zll, Nat.mul_one]; done) | (simp only [zll]; omega) | rfl | (simp; done)) (by decide) (iv_one _)) (by first | omega | (simp only [zll] <;> omega) | (simp; done)) iv_app (by first | omega | (simp only [maxLen, zll] <;> omega) | (simp only [maxLen]; omega)) (by first | omega | (simp only [zll] <;> omega)) (fun ad123 cp123 w123 (hS123 : St _ _ [.ow 3 1 ad123 (k + (L.length - (k + 1))) cp123 (iv ((L.take k) ++ (L.drop (k + 1)))), _, _, _, .fz g113, _, _] _) => ?_)
 clear hS122
 refine hK _ _ trivial ?_; clear hK K
 refine o_pure (i := 10) (fun _ _ => trivial) rfl rfl (by kernel_rfl) (goes0 rfl) (QOk.inBlock (QOk.then (QOk.then (QOk.inBlock (QOk.then QOk.body))))) (fun w => q_assignS rfl) ?_
 refine o_done (by kernel_rfl) ?_
 refine hK59 _ _ ?_
 refine wp_region_lit ?_
 refine l_q rfl rfl (q_moveI rfl) ?_
 refine l_q rfl rfl (q_addx rfl rfl (by first | decide | omega) (by first | decide | omega)) ?_
 refine l_q rfl rfl (q_assignI rfl) ?_
 refine l_nil ?_
 have hS124 : St _ _ [.ow 3 1 ad123 (((L.take k) ++ (L.drop (k + 1))).length) cp123 (iv ((L.take k) ++ (L.drop (k + 1)))), _, _, _, .fz g113, _, _] _ := hS123.cast (by rw [show ((L.take k) ++ (L.drop (k + 1))).length = (k + (L.length - (k + 1))) from (by first | omega | (simp only [zll] <;> omega))]); clear hS123
 have hS125 := hS124.fr4; clear hS124
 have hS126 := hS125.fr4; clear hS125
 have hS127 := hS126.fr4; clear hS126
 have hS128 := hS127.fr4; clear hS127
 have hS129 : St _ _ [_, _, _, .fz g113, _] _ := hS128.only 5; clear hS128
 refine hK55 _ _ (came (⟨(j + 1), ((L.take k) ++ (L.drop (k + 1))), ad123, cp123, T113, [], oa113, oc113, wa113, wc113, rs113, da113, dc113, l113, s113, g113⟩) (by repeat' (first | exact Agree.refl _ _ | refine Agree.up ?_ rfl | refine Agree.hav2 ?_ rfl | refine Agree.ups2 ?_ rfl)) (by repeat' (first | exact trivial | refine ⟨by first | rfl | exact int_succ _ | assumption | exact congrArg (fun z => Value.slice _ z _) (by first | omega | (simp only [zll] <;> omega)), ?_⟩)) ?_)
 have hL2 : (L.take k ++ L.drop (k + 1)).length + 1 = L.length := by rw [List.length_append, List.length_take, List.length_drop]; omega
 exact ⟨⟨hS129, hLk.cut k, (by show (L.take k ++ L.drop (k + 1)).length + (j + 1) ≤ 16; omega), hT113, hTC113, hO113, (by show 0 ≤ 1000; decide), hrs113, (by first | omega | (dsimp only; omega)), hGr113.1, (by first | omega | (dsimp only; omega)), (by first | omega | (dsimp only; omega))⟩, by (show (L.take k ++ L.drop (k + 1)).length < L.length); omega⟩
 have hc58b := hc58
 try simp only [zbb] at hc58
 refine wp_exit ?_
 refine hK49 _ _ ?_
 refine wp_seq_k (fun K130 hK130 => ?_)
 have hL0 : L = [] := List.eq_nil_of_length_eq_zero (by omega)
 have hT0 : T = [] := abs_nil (by rw [hTC, hL0, cm_nil])
 subst hT0
 refine wp_region_lit ?_
 refine l_q rfl rfl (q_moveP rfl) ?_
 refine l_e rfl (fun K hK => ?_)
 have hS132 := hS55.fr3; clear hS55
 have hS133 := hS132.fr1; clear hS132
 refine e_call (by kernel_rfl) (out_ok k6 kw6 nd 0 (0 + 1) mb6 oa2 O2 oc2 [] TOk.nil g hO2 (by first | omega | (simp only [zll] <;> omega)) _ (St.begin (Γ := [_, _]) hS133)) rfl (after_M (Γ1 := [_, _]) hS133 (fun v131 G131 w131 hv131 hS131 => ?_))
 clear hS133
 obtain ⟨rfl, rfl⟩ := hv131
 have hS134 : St _ _ [_, co k6 kw6 nd 0 (0 + 1) mb6 none [] 0 [], .fz g, _, _, _] _ := hS131; clear hS131
 refine hK _ _ ?_; clear hK K
 refine l_nil ?_
 refine hK130 _ _ ?_
 refine wp_seq_k (fun K135 hK135 => ?_)
 refine wp_region_lit ?_
 refine l_q rfl rfl (q_moveP rfl) ?_
 refine l_q rfl rfl (q_moveS rfl) ?_
 refine l_q rfl rfl (q_ixG (e := 3) (m := 1) (j := 0) rfl rfl (by kernel_rfl) (by kernel_rfl) (by first | rfl | omega) (by omega) hN (by rw [iv_len]; first | omega | (simp only [zll] <;> omega))) ?_
 obtain ⟨x136, hx136⟩ : ∃ x, (ns)[0]? = some x := ⟨_, List.getElem?_eq_getElem (by first | omega | (simp only [zll] <;> omega) | (simp <;> omega))⟩
 refine l_q rfl rfl (q_load1 rfl (by kernel_rfl) (SlG.cell (hN.mono hS134.base) (Gle.refl _) (at1 (iv_at hx136)))) ?_
 have hx0 := hnx x136 (List.mem_of_getElem? hx136)
 obtain ⟨m, hm⟩ : ∃ m : Nat, x136 = (m : Int) := ⟨x136.toNat, by omega⟩
 subst hm
 refine l_q rfl rfl (q_moveI rfl) ?_
 refine l_q rfl rfl (q_moveI rfl) ?_
 refine l_q rfl rfl (q_build (ps := [(0, 1), (1, 1), (2, 1), (3, 1), (4, 1)]) (zv := .agg #[.int .i64 0, .int .i64 0, .int .i64 0, .int .i64 0, .slice none 0 0]) (by kernel_rfl) (by kernel_rfl) rfl (by repeat' (first | exact trivial | refine ⟨fun _ => by first | rfl | assumption | exact one_if (by assumption), ?_⟩ | refine ⟨fun ⟨_, h⟩ => by simp at h, ?_⟩)) rfl) ?_
 refine l_e rfl (fun K hK => ?_)
 have hS138 := hS134.fr2; clear hS134
 have hS139 := hS138.fr4; clear hS138
 have hS140 := hS139.fr4; clear hS139
 have hS141 := hS140.fr4; clear hS140
 refine e_call (by kernel_rfl) (hear_any k6 kw6 nd 0 (0 + 1) mb6 none [] 0 [] TOk.nil g LOk.nil (by first | omega | (simp only [zll] <;> omega)) k3 wa wc rs da dc l 0 s (by first | omega | (simp only [zll] <;> omega)) hl (by first | omega | (simp only [zll] <;> omega)) (by first | omega | (simp only [zll] <;> omega)) hR (Lr.mk (8 : Int) (m : Int) nd nd []) none 0 0 rfl (by first | omega | (simp only [zll] <;> omega)) _ _ ((fun _ _ e => by cases e) : Rog [_, _, _, _] _ (fun _ => none)) SlG.nil (St.begin (Γ := [_, _, _, _]) hS141)) rfl (after_M (Γ1 := [_, _, _, _]) hS141 (fun v137 G137 w137 hv137 hS137 => ?_))
 clear hS141
 obtain ⟨a137, oa137, oc137, O137, T137, wa137, wc137, rs137, da137, dc137, l137, s137, g137, rfl, rfl, hle137, hO137, hT137, hE137, hrs137, hrl137, hGr137⟩ := hv137
 have hS142 : St _ _ [co k6 kw6 nd 0 (0 + 1) mb6 oa137 O137 oc137 T137, wk kw6 k3 wa137 wc137 rs137, dk k3 da137 dc137 l137 0 s137, .fz g137, _, _] _ := hS137; clear hS137
 have hGs137 := hGr137.2.1; have hGl137 := hGr137.2.2.1; have hGm137 := hGr137.2.2.2
 refine hK _ _ ?_; clear hK K
 obtain ⟨ea137, eT137, eO137, el137, es137⟩ := val5 hE137 (hear_none1 (m := m) (by decide) (by omega) hnd _ _ _)
 subst ea137
 have eN137 := abs_nil eT137
 subst eN137
 have el137' := el137.symm; have es137' := es137.symm; subst el137' es137'
 have eO137 : O137.map Lo.l = [Lr.mk 6 nd (m : Int) nd []] := eO137
 have hol137 : O137.length = 1 := los_len eO137
 refine l_q rfl rfl (q_assignI rfl) ?_
 refine l_nil ?_
 refine hK135 _ _ ?_
 refine wp_seq_k (fun K143 hK143 => ?_)
 refine wp_region_lit ?_
 refine l_q rfl rfl (q_moveP rfl) ?_
 refine l_e rfl (fun K hK => ?_)
 have hS145 := hS142.fr3; clear hS142
 have hS146 := hS145.fr1; clear hS145
 refine e_call (by kernel_rfl) (out_ok k6 kw6 nd 0 (0 + 1) mb6 oa137 O137 oc137 [] hT137 g137 hO137 (by first | omega | (simp only [zll] <;> omega)) _ (St.begin (Γ := [_, _]) hS146)) rfl (after_M (Γ1 := [_, _]) hS146 (fun v144 G144 w144 hv144 hS144 => ?_))
 clear hS146
 obtain ⟨rfl, rfl⟩ := hv144
 have hS147 : St _ _ [.ow 42 5 oa137 O137.length oc137 (List.flatMap lo O137), _, .fz g137, _, dk k3 da137 dc137 l 0 s, _, _] _ := hS144; clear hS144
 refine hK _ _ ?_; clear hK K
 refine l_q rfl rfl (q_assignS rfl) ?_
 refine l_nil ?_
 refine hK143 _ _ ?_
 refine wp_seq_k (fun K148 hK148 => ?_)
 refine r_any (by kernel_rfl) hS147 (fun w149 hS149 => ?_)
 clear hS147
 refine o_eff (i := 0) (by kernel_rfl) rfl (goes0 rfl) (fun K hK => ?_)
 refine e_call (by kernel_rfl) (alive13_ok _) rfl (after_R hS149 (fun v150 w150 hv150 hS150 => ?_))
 clear hS149
 obtain rfl := hv150
 refine hK _ _ trivial ?_; clear hK K
 refine o_pure (i := 1) (fun _ _ => trivial) rfl rfl (by kernel_rfl) (goes0 rfl) (QOk.then QOk.body) (fun w => q_moveB rfl) ?_
 refine o_pure (i := 2) (fun _ _ => trivial) rfl rfl (by kernel_rfl) (goes1 rfl rfl rfl) (QOk.then QOk.body) (fun w => q_moveP rfl) ?_
 refine o_pure (i := 3) (fun _ _ => trivial) rfl rfl (by kernel_rfl) (goes1 rfl rfl rfl) (QOk.then QOk.body) (fun w => q_moveI rfl) ?_
 refine o_eff (i := 4) (by kernel_rfl) rfl (goes1 rfl rfl rfl) (fun K hK => ?_)
 have hS152 := hS150.fr2; clear hS150
 have hS153 := hS152.fr2; clear hS152
 refine e_call (by kernel_rfl) (state_any k6 kw6 nd 0 (0 + 1) mb6 none [] 0 [] hT137 g137 LOk.nil (by first | omega | (simp only [zll] <;> omega)) nd _ (St.begin (Γ := [_, _]) hS153)) rfl (after_M (Γ1 := [_, _]) hS153 (fun v151 G151 w151 hv151 hS151 => ?_))
 clear hS153
 obtain ⟨a151, rfl, rfl, hE151⟩ := hv151
 have hS154 : St _ _ [_, .fz g137, _, _, _, _, _] _ := hS151; clear hS151
 refine hK _ _ trivial ?_; clear hK K
 have ha151 : a151 = 0 := hE151.symm.trans (sta_nil _)
 subst ha151
 refine o_pure (i := 5) (fun _ _ => trivial) rfl rfl (by kernel_rfl) (goes1 rfl rfl rfl) (QOk.then QOk.body) (fun w => q_eql rfl rfl) ?_
 refine o_pure (i := 6) (fun _ _ => trivial) rfl rfl (by kernel_rfl) (goes0 rfl) (QOk.then QOk.body) (fun w => q_pickT rfl rfl rfl) ?_
 refine o_pure (i := 7) (fun _ _ => trivial) rfl rfl (by kernel_rfl) (goes0 rfl) (QOk.then QOk.body) (fun w => q_moveB rfl) ?_
 refine o_pure (i := 8) (fun _ _ => trivial) rfl rfl (by kernel_rfl) (goes1 rfl rfl (by decide)) (QOk.then QOk.body) (fun w => q_moveI rfl) ?_
 refine o_pure (i := 9) (fun _ _ => trivial) rfl rfl (by kernel_rfl) (goes1 rfl rfl (by decide)) (QOk.then QOk.body) (fun w => q_eql rfl rfl) ?_
 refine o_pure (i := 10) (fun _ _ => trivial) rfl rfl (by kernel_rfl) (goes0 rfl) (QOk.then QOk.body) (fun w => q_pickT rfl (by decide) rfl) ?_
 refine o_pure (i := 11) (fun _ _ => trivial) rfl rfl (by kernel_rfl) (goes0 rfl) (QOk.then QOk.body) (fun w => q_moveB rfl) ?_
 refine o_pure (i := 12) (fun _ _ => trivial) rfl rfl (by kernel_rfl) (goes1 rfl rfl (by decide)) (QOk.then QOk.body) (fun w => q_moveS rfl) ?_
 refine o_pure (i := 13) (fun _ _ => trivial) rfl rfl (by kernel_rfl) (goes1 rfl rfl (by decide)) (QOk.then QOk.body) (fun w => q_lenSl (e := 42) rfl (by kernel_rfl)) ?_
 refine o_pure (i := 14) (fun _ _ => trivial) rfl rfl (by kernel_rfl) (goes1 rfl rfl (by decide)) (QOk.then QOk.body) (fun w => q_eql rfl rfl) ?_
 refine o_pure (i := 15) (fun _ _ => trivial) rfl rfl (by kernel_rfl) (goes0 rfl) (QOk.then QOk.body) (fun w => q_pickT rfl (by decide) rfl) ?_
 refine o_pure (i := 16) (fun _ _ => trivial) rfl rfl (by kernel_rfl) (goes0 rfl) (QOk.then QOk.body) (fun w => q_moveB rfl) ?_
 refine g_splitO (t := 187) rfl (fun hg155 => ?_) (fun hg155 => ?_)
 have hg155b := hg155
 try simp only [zbb] at hg155
 refine o_pure (i := 17) (fun _ _ => trivial) rfl rfl (by kernel_rfl) (goes1 rfl rfl hg155b) (QOk.then QOk.body) (fun w => q_moveS rfl) ?_
 refine o_pure (i := 18) (fun _ _ => trivial) rfl rfl (by kernel_rfl) (goes1 rfl rfl hg155b) (QOk.then QOk.body) (fun w => q_ixG (e := 42) (m := 5) (j := 0) rfl rfl (by kernel_rfl) (by kernel_rfl) (by first | rfl | omega) (by omega) (hS154.owG (i := 2) rfl) (by rw [rows_len (c := lo) (m := 5) (fun _ => rfl)]; first | omega | (simp only [zll] <;> omega))) ?_
 refine o_pure (i := 19) (fun _ _ => trivial) rfl rfl (by kernel_rfl) (goes1 rfl rfl hg155b) (QOk.then QOk.body) (fun w => q_fieldG (ft := 40) (o := 0) rfl (by kernel_rfl)) ?_
 obtain ⟨x156, hx156⟩ : ∃ x, (O137)[0]? = some x := ⟨_, List.getElem?_eq_getElem (by first | omega | (simp only [zll] <;> omega) | (simp <;> omega))⟩
 have hlx_x156 := (hO137 x156 (List.mem_of_getElem? hx156)).2
 refine o_held (i := 20) [21, 22, 23, 24, 25, 26, 27, 28, 29, 30, 31, 32, 33] (fun _ _ => trivial) rfl rfl (by kernel_rfl) (goes1 rfl rfl hg155b) (QOk.then QOk.body) (q_load1 rfl (by kernel_rfl) (SlG.cell (hS154.owG (i := 2) rfl) (Gle.refl _) (row_at hx156 (c := lo) (m := 5) (fun _ => rfl) (j := 0) rfl))) ?_
 have hl1 : Lr.mk 6 nd (m : Int) nd [] = x156.l := Option.some.inj (los_at eO137 hx156)
 have hlk : x156.l.k = 6 := by rw [← hl1]
 have hlt : x156.l.t = (m : Int) := by rw [← hl1]
 refine o_pure (i := 21) (fun j w => ⟨(fun _ _ => trivial) j w, fun _ h => h⟩) rfl rfl (by kernel_rfl) (goes1 rfl rfl hg155b) (QOk.then QOk.body) (fun w => q_eql rfl rfl) ?_
 refine o_pure (i := 22) (fun j w => ⟨(fun _ _ => trivial) j w, fun _ h => h⟩) rfl rfl (by kernel_rfl) (goes0 rfl) (QOk.then QOk.body) (fun w => q_pickT rfl hg155b rfl) ?_
 refine o_pure (i := 23) (fun j w => ⟨(fun _ _ => trivial) j w, fun _ h => h⟩) rfl rfl (by kernel_rfl) (goes0 rfl) (QOk.then QOk.body) (fun w => q_moveB rfl) ?_
 refine g_splitO (t := 194) rfl (fun hg157 => ?_) (fun hg157 => ?_)
 have hg157b := hg157
 try simp only [zbb] at hg157
 refine o_pure (i := 24) (fun j w => ⟨(fun _ _ => trivial) j w, fun _ h => h⟩) rfl rfl (by kernel_rfl) (goes1 rfl rfl hg157b) (QOk.then QOk.body) (fun w => q_moveS rfl) ?_
 refine o_pure (i := 25) (fun j w => ⟨(fun _ _ => trivial) j w, fun _ h => h⟩) rfl rfl (by kernel_rfl) (goes1 rfl rfl hg157b) (QOk.then QOk.body) (fun w => q_ixG (e := 42) (m := 5) (j := 0) rfl rfl (by kernel_rfl) (by kernel_rfl) (by first | rfl | omega) (by omega) (hS154.owG (i := 2) rfl) (by rw [rows_len (c := lo) (m := 5) (fun _ => rfl)]; first | omega | (simp only [zll] <;> omega))) ?_
 refine o_pure (i := 26) (fun j w => ⟨(fun _ _ => trivial) j w, fun _ h => h⟩) rfl rfl (by kernel_rfl) (goes1 rfl rfl hg157b) (QOk.then QOk.body) (fun w => q_fieldG (ft := 3) (o := 2) rfl (by kernel_rfl)) ?_
 refine o_held (i := 27) [31, 32, 33] (fun j w => ⟨(fun _ _ => trivial) j w, fun _ h => h⟩) rfl rfl (by kernel_rfl) (goes1 rfl rfl hg157b) (QOk.then QOk.body) (q_load1 rfl (by kernel_rfl) (SlG.cell (hS154.owG (i := 2) rfl) (Gle.refl _) (row_at hx156 (c := lo) (m := 5) (fun _ => rfl) (j := 2) rfl))) ?_
 refine o_pure (i := 28) (fun j w => ⟨(fun j w => ⟨(fun _ _ => trivial) j w, fun _ h => h⟩) j w, fun _ h => h⟩) rfl rfl (by kernel_rfl) (goes1 rfl rfl hg157b) (QOk.then QOk.body) (fun w => q_moveS rfl) ?_
 refine o_pure (i := 29) (fun j w => ⟨(fun j w => ⟨(fun _ _ => trivial) j w, fun _ h => h⟩) j w, fun _ h => h⟩) rfl rfl (by kernel_rfl) (goes1 rfl rfl hg157b) (QOk.then QOk.body) (fun w => q_ixG (e := 3) (m := 1) (j := 0) rfl rfl (by kernel_rfl) (by kernel_rfl) (by first | rfl | omega) (by omega) hN (by rw [iv_len]; first | omega | (simp only [zll] <;> omega))) ?_
 refine o_held (i := 30) [31, 32, 33] (fun j w => ⟨(fun j w => ⟨(fun _ _ => trivial) j w, fun _ h => h⟩) j w, fun _ h => h⟩) rfl rfl (by kernel_rfl) (goes1 rfl rfl hg157b) (QOk.then QOk.body) (q_load1 rfl (by kernel_rfl) (SlG.cell (hN.mono hS154.base) (Gle.refl _) (at1 (iv_at hx136)))) ?_
 refine o_pure (i := 31) (fun j w => ⟨(fun j w => ⟨(fun j w => ⟨(fun _ _ => trivial) j w, fun _ h => h⟩) j w, fun _ h => h⟩) j w, fun _ h => h⟩) rfl rfl (by kernel_rfl) (goes1 rfl rfl hg157b) (QOk.then QOk.body) (fun w => q_eql rfl rfl) ?_
 refine o_pure (i := 32) (fun j w => ⟨(fun j w => ⟨(fun j w => ⟨(fun _ _ => trivial) j w, fun _ h => h⟩) j w, fun _ h => h⟩) j w, fun _ h => h⟩) rfl rfl (by kernel_rfl) (goes0 rfl) (QOk.then QOk.body) (fun w => q_pickT rfl hg157b rfl) ?_
 refine o_pure (i := 33) (fun j w => ⟨(fun j w => ⟨(fun j w => ⟨(fun _ _ => trivial) j w, fun _ h => h⟩) j w, fun _ h => h⟩) j w, fun _ h => h⟩) rfl rfl (by kernel_rfl) (goes0 rfl) (QOk.then QOk.body) (fun w => q_assignB rfl) ?_
 refine o_done (by kernel_rfl) ?_
 refine hK148 _ _ ?_
 refine wp_ret ?_
 refine c_ret1 rfl rfl ?_
 first | exact ⟨_, rfl, rfl, hS154.drop⟩ | exact ⟨_, rfl, congrArg Value.bool (decide_eq_true (by omega)), hS154.drop⟩
 have hg157b := hg157
 try simp only [zbb] at hg157
 exfalso; first | omega | exact hg157 trivial | exact absurd hg157 (by decide)
 have hg155b := hg155
 try simp only [zbb] at hg155
 exfalso; first | omega | exact hg155 trivial | exact absurd hg155 (by decide)
 refine l_e rfl (fun K hK => ?_)
 refine e_call (by kernel_rfl) (ask_any k6 kw6 nd 0 (0 + 1) mb6 oa16 [] oc16 [(nd, b16, zeroTx)] hT16 g16 hO16 (by first | omega | (simp only [zll] <;> omega)) nd ns ns.length (by first | omega | (simp only [zll] <;> omega)) (by first | omega | (simp only [zll] <;> omega)) na nc _ _ (St.rogB (Γ1 := [_, _]) hS19) hN (St.begin (Γ := [_, _]) hS19)) rfl (after_M (Γ1 := [_, _]) hS19 (fun v158 G158 w158 hv158 hS158 => ?_))
 clear hS19
 obtain ⟨a158, oa158, oc158, O158, T158, g158, rfl, rfl, hle158, hO158, hT158, hE158⟩ := hv158
 have hS159 : St _ _ [co k6 kw6 nd 0 (0 + 1) mb6 oa158 O158 oc158 T158, .fz g158, _, _] _ := hS158; clear hS158
 have hR158_2 := RsOk.mono hR16_2 hle158
 refine hK _ _ ?_; clear hK K
 obtain ⟨ea158, eT158, eO158⟩ := val3 hE158 (ask_not rfl rfl (by cases h : (ofL ns).2 with | true => exact absurd h hof | false => rfl))
 subst ea158
 obtain ⟨b158, eN158⟩ := abs_one eT158
 subst eN158
 have eM158 := los_nil eO158
 subst eM158
 refine l_q rfl rfl (q_neq rfl rfl) ?_
 refine l_nil ?_
 refine hK21 _ _ ?_
 refine c_condT rfl (by decide) ?_
 refine wp_seq_k (fun K161 hK161 => ?_)
 refine wp_region_lit ?_
 refine l_e rfl (fun K hK => ?_)
 refine e_call (by kernel_rfl) (alive13_ok _) rfl (after_R hS159 (fun v162 w162 hv162 hS162 => ?_))
 clear hS159
 obtain rfl := hv162
 refine hK _ _ ?_; clear hK K
 refine l_q rfl rfl (q_assignB rfl) ?_
 refine l_nil ?_
 refine hK161 _ _ ?_
 refine wp_ret ?_
 refine c_ret1 rfl rfl ?_
 first | exact ⟨_, rfl, rfl, hS162.drop⟩ | exact ⟨_, rfl, congrArg Value.bool (decide_eq_true (by omega)), hS162.drop⟩
 refine l_e rfl (fun K hK => ?_)
 refine e_call (by kernel_rfl) (open_arg nd hnd _ _) rfl (after_R hS5 (fun v163 w163 hv163 hS163 => ?_))
 clear hS5
 obtain rfl := hv163
 refine hK _ _ ?_; clear hK K
 refine l_q rfl rfl (q_move rfl) ?_
 refine l_q rfl rfl (q_extract rfl rfl) ?_
 refine l_q rfl rfl (q_extract rfl rfl) ?_
 refine l_q rfl rfl (q_assignP rfl) ?_
 refine l_q rfl rfl (q_assignI rfl) ?_
 refine l_nil ?_
 refine hK2 _ _ ?_
 refine wp_seq_k (fun K164 hK164 => ?_)
 refine wp_seq_k (fun K165 hK165 => ?_)
 refine wp_region_lit ?_
 refine l_q rfl rfl (q_moveI rfl) ?_
 refine l_q rfl rfl (q_neq rfl rfl) ?_
 refine l_q rfl rfl (q_moveB rfl) ?_
 refine l_off rfl rfl rfl (by decide) ?_
 refine l_off rfl rfl rfl (by decide) ?_
 refine l_q rfl rfl (q_pickT rfl (by decide) rfl) ?_
 refine l_q rfl rfl (q_moveB rfl) ?_
 refine l_off rfl rfl rfl rfl ?_
 refine l_off rfl rfl rfl rfl ?_
 refine l_off rfl rfl rfl rfl ?_
 refine l_q rfl rfl (q_pickT rfl rfl rfl) ?_
 refine l_nil ?_
 refine hK165 _ _ ?_
 refine c_condT rfl rfl ?_
 refine wp_seq_k (fun K167 hK167 => ?_)
 refine wp_region_lit ?_
 refine l_e rfl (fun K hK => ?_)
 refine e_call (by kernel_rfl) (alive13_ok _) rfl (after_R hS163 (fun v168 w168 hv168 hS168 => ?_))
 clear hS163
 obtain rfl := hv168
 refine hK _ _ ?_; clear hK K
 refine l_q rfl rfl (q_moveB rfl) ?_
 refine l_on rfl rfl rfl ?_
 refine l_q rfl rfl (q_moveI rfl) ?_
 refine l_on rfl rfl rfl ?_
 refine l_q rfl rfl (q_eql rfl rfl) ?_
 refine l_on rfl rfl rfl ?_
 refine l_q rfl rfl (q_moveB rfl) ?_
 refine l_on rfl rfl (by decide) ?_
 refine l_q rfl rfl (q_moveI rfl) ?_
 refine l_on rfl rfl (by decide) ?_
 refine l_q rfl rfl (q_eql rfl rfl) ?_
 refine l_on rfl rfl rfl ?_
 refine l_q rfl rfl (q_pickF rfl (by decide) rfl) ?_
 refine l_q rfl rfl (q_pickT rfl rfl rfl) ?_
 refine l_q rfl rfl (q_assignB rfl) ?_
 refine l_nil ?_
 refine hK167 _ _ ?_
 refine wp_ret ?_
 refine c_ret1 rfl rfl ?_
 first | exact ⟨_, rfl, rfl, hS168.drop⟩ | exact ⟨_, rfl, congrArg Value.bool (decide_eq_true (by omega)), hS168.drop⟩
end Go.Proofs.Yteojpdijmnpmgaa
namespace Go.Proofs.Yteojpdijmnpmgaa
open Go.ChangeShapes Go.WideShapes Go.ChangeAt Go.RowKit
set_option maxRecDepth 100000 in
theorem coordinatorEnds_lifted (os : Os) (started : os.Started) (H : Type) (enc : TypeId × Value → H) :
    ReturnsInHanded {} Try.checked os 6 .any (Rows.coordinatorEndsSpec.pre6 enc Try.prog Try.f6 Rows.coordinatorEndsRow.domain false) (Rows.coordinatorEndsSpec.post enc Try.prog Try.f6 false true false false) := by
  refine returnsInHanded_of_change (C := Try.checked) own7 started (by kernel_rfl) Try.func6
    (ChangeSpec.witness6 (enc := enc) (C := Try.checked) false ⟨#[], #[.int .i64 0, .slice none 0 0, .slice none 0 0], []⟩ 8 (by kernel_rfl) (by kernel_rfl) (by kernel_rfl) (by kernel_rfl)) ?_
  intro W base args ds gs before hval0 hW hcnd _
  have hval : ∀ (j : Nat) t v, Try.f6.params[j]? = some t → args[j]? = some v → Value.okWide Try.prog W .any base t v := hval0
  have hW' := hW
  obtain ⟨p, q, hA0, hV0, rfl, hfz, hnd⟩ := hW
  have hA : DataW.TrodAll enc Try.prog W 0 (fun _ => true) true Try.f6.params.toList args.toList ds p := hA0
  have hV : DataW.TrodVars enc Try.prog W (fun _ => true) [] gs q := hV0
  rw [Try.params6] at hA hval
  obtain ⟨v0, v1, v2, d0, d1, d2, q0, q1, q2, rfl, rfl, rfl, h0, h1, h2⟩ := trodAll_three hA
  obtain ⟨rfl, rfl⟩ := trodVars_none hV
  obtain ⟨nd, rfl, rfl, rfl, wnd⟩ := open_int Try.underlying3 (hval 0 3 v0 rfl rfl) h0
  have bnd := bnd_i64 wnd
  obtain ⟨sa, sn, sc, rfl⟩ := okWide_slice Try.underlying22 (hval 1 22 v1 rfl rfl)
  obtain ⟨s, hsn, hsG, hsB, hsc⟩ := opn_intsT h1
  subst hsn
  obtain ⟨qa, qn, qc, rfl⟩ := okWide_slice Try.underlying22 (hval 2 22 v2 rfl rfl)
  obtain ⟨q, hqn, hqG, hqB, hqc⟩ := opn_intsT h2
  subst hqn
  clear hA0 hval0
  simp only [List.append_nil] at hW'
  have hlt1 : ∀ x ∈ q1, x.block < W.heap.size := fun x hx => by simpa using hW'.lt x (by simp [hx])
  have hlt2 : ∀ x ∈ q2, x.block < W.heap.size := fun x hx => by simpa using hW'.lt x (by simp [hx])
  have e1 : Rows.coordinatorEndsSpec.fn H ([.lit (.int .i64 nd), d1, d2] ++ []) = { results := [.lit (.bool true)], args := [.lit (.int .i64 nd), d1, d2] } := by simp [Rows.coordinatorEndsSpec]
  refine (ends_ok nd s sa sc q qa qc (fun x hx => (hqB x hx).1) W hsG hqG).mono fun e W' hw0 => ?_
  obtain ⟨rr, he, hrr, hSt⟩ := hw0
  subst he hrr
  have hw : Below W.heap.size W W' := hSt.below
  refine ⟨_, rfl, _, _, _, [], [] ++ (q1 ++ q2), [], hW', ?_, ?_, ?_, hw.frame _, fun h => by cases h⟩
  · rw [e1]; exact trodAll_mk1 (shut_bool Try.underlying4 true)
  · rw [e1]; exact trodAll_mk3 (shut_int Try.underlying3 wnd) (Below.trod laidOut7 (by kernel_rfl) (of_decide_eq_true (by kernel_rfl)) h1 hw hlt1) (Below.trod laidOut7 (by kernel_rfl) (of_decide_eq_true (by kernel_rfl)) h2 hw hlt2)
  · rw [e1]; rfl

theorem coordinatorEnds_holds : Rows.CoordinatorEndsSaid :=
  OpenClaim.holds_of_wide 6 Try.f6 rfl rfl rfl rfl rfl rfl rfl ⟨rfl, rfl, rfl, rfl, rfl⟩ rfl rfl rfl rfl rfl (by kernel_rfl) Try.func6 (by kernel_rfl)
    (of_decide_eq_true (by kernel_rfl)) (by unfold Func.isWrapper; rw [if_neg (of_decide_eq_false (by kernel_rfl))]; exact ⟨rfl, rfl⟩)
    (fun os started H enc _ => coordinatorEnds_lifted os started H enc)
#print axioms coordinatorEnds_holds
end Go.Proofs.Yteojpdijmnpmgaa
