/- Net: Send, Take, Lose, Twice. -/
import Derived.Test.YtlplhlncdfhhoaaEa
set_option linter.unusedVariables false
set_option linter.unusedSimpArgs false
namespace Go.Proofs.Ytlplhlncdfhhoaa
open Go.RowKit
/-- The letters under way, by their numbers. -/
def absN (L : List (Int × Ent)) : List (Int × Lr) := L.map fun q => (q.1, q.2.l)
theorem absN_len (L : List (Int × Ent)) : (absN L).length = L.length := List.length_map _
theorem absN_app (L M : List (Int × Ent)) : absN (L ++ M) = absN L ++ absN M := List.map_append
theorem absN_del (L : List (Int × Ent)) (n : Int) : absN (mdel L n) = mdel (absN L) n := by
  unfold absN mdel
  rw [List.filter_map]; rfl
/-- Numbers rise, and are below the next one. -/
def NumOk (A : List (Int × Lr)) (s : Nat) : Prop := (A.Pairwise fun p q => p.1 < q.1) ∧ ∀ q ∈ A, 0 ≤ q.1 ∧ q.1 < (s : Int)
theorem NumOk.nil (s : Nat) : NumOk [] s := ⟨.nil, by simp⟩
theorem NumOk.fresh {L : List (Int × Ent)} {s : Nat} (h : NumOk (absN L) s) : ∀ q ∈ L, q.1 ≠ (s : Int) := fun q hq e => by
  have := (h.2 (q.1, q.2.l) (List.mem_map.2 ⟨q, hq, rfl⟩)).2
  simp only at this; omega
/-- What Send comes to. -/
def snd (A : List (Int × Lr)) (s : Nat) (l : Lr) : (Int × Int) × List (Int × Lr) × Nat :=
  if rightL l = true then (if A.length < 1024 then (((s : Int), 0), A ++ [((s : Int), l)], s + 1) else ((0, 62), A, s)) else ((0, 111), A, s)
theorem snd_no {A : List (Int × Lr)} {s : Nat} {l : Lr} (h : rightL l = false) : snd A s l = ((0, 111), A, s) := if_neg (by rw [h]; decide)
theorem snd_full {A : List (Int × Lr)} {s : Nat} {l : Lr} (h : rightL l = true) (hf : 1024 ≤ A.length) : snd A s l = ((0, 62), A, s) := by unfold snd; rw [if_pos h, if_neg (by omega)]
theorem snd_ok {A : List (Int × Lr)} {s : Nat} {l : Lr} (h : rightL l = true) (hf : A.length < 1024) : snd A s l = (((s : Int), 0), A ++ [((s : Int), l)], s + 1) := by unfold snd; rw [if_pos h, if_pos hf]
theorem NumOk.snd {A : List (Int × Lr)} {s : Nat} (h : NumOk A s) (l : Lr) : NumOk (snd A s l).2.1 (snd A s l).2.2 := by
  unfold Go.Proofs.Ytlplhlncdfhhoaa.snd
  split
  · split
    · refine ⟨?_, fun q hq => ?_⟩
      · rw [List.pairwise_append]
        exact ⟨h.1, by simp, fun a ha b hb => by rw [List.mem_singleton] at hb; subst hb; exact (h.2 a ha).2⟩
      · rcases List.mem_append.1 hq with hq | hq
        · have := h.2 q hq; show 0 ≤ q.1 ∧ q.1 < ((s + 1 : Nat) : Int); omega
        · rw [List.mem_singleton] at hq; subst hq; show 0 ≤ (s : Int) ∧ (s : Int) < ((s + 1 : Nat) : Int); omega
    · exact h
  · exact h
theorem NumOk.del {A : List (Int × Lr)} {s : Nat} (h : NumOk A s) (n : Int) : NumOk (mdel A n) s := ⟨h.1.filter _, fun q hq => h.2 q (List.mem_filter.1 hq).1⟩
theorem EOk.del {g : Gh} {L : List (Int × Ent)} (h : EOk g L) (n : Int) : EOk g (mdel L n) := fun q hq => h q (List.mem_filter.1 hq).1
theorem EOk.add {g : Gh} {L : List (Int × Ent)} (h : EOk g L) {n : Int} {ad : Option Addr} {cap : Nat} {l : Lr} (hG : SlG g ad (bv (encL l))) (hr : rightL l = true) (hc : (encL l).length ≤ cap) : EOk g (L ++ [(n, ⟨ad, cap, l⟩)]) := fun q hq => by
  rcases List.mem_append.1 hq with hq | hq
  · exact h q hq
  · rw [List.mem_singleton] at hq; subst hq; exact ⟨hG, hr, hc⟩
theorem lenc_yes {l : Lr} (hR : rightL l = true) (n : Nat) (hn : l.nd.length = n) (hm : n ≤ 2000000) (an : Option Addr) (cn : Nat) (w : World) (hG : SlG (hw w) an (iv l.nd)) :
    Calls Try.prog 27 #[.agg #[.int .i64 l.k, .int .i64 l.f, .int .i64 l.t, .int .i64 l.x, .slice an n cn]] w (PostN w fun v G => ∃ oa oc, v = .tuple #[.slice oa (encL l).length oc, .int .i64 0] ∧ G = [.ow 5 1 oa (encL l).length oc (bv (encL l))]) :=
  (lenc_ok l n hn hm an cn w hG).mono fun _ w' ⟨v, G, he, hP, hS⟩ => ⟨v, G, he, by rw [encLE_yes hR] at hP; exact hP, hS⟩
theorem lenc_no {l : Lr} (hR : ¬rightL l = true) (n : Nat) (hn : l.nd.length = n) (hm : n ≤ 2000000) (an : Option Addr) (cn : Nat) (w : World) (hG : SlG (hw w) an (iv l.nd)) :
    Calls Try.prog 27 #[.agg #[.int .i64 l.k, .int .i64 l.f, .int .i64 l.t, .int .i64 l.x, .slice an n cn]] w (PostN w fun v G => ∃ oa oc, v = .tuple #[.slice oa 0 oc, .int .i64 111] ∧ G = [.ow 5 1 oa 0 oc []]) :=
  (lenc_ok l n hn hm an cn w hG).mono fun _ w' ⟨v, G, he, hP, hS⟩ => ⟨v, G, he, by rw [encLE_no (by simpa using hR)] at hP; exact hP, hS⟩
/-- What Send hands back, and leaves. -/
def SendP (k mb s t o : Nat) (L : List (Int × Ent)) (g : Gh) (l : Lr) (v : Value) (G : List Ch) : Prop := ∃ L' s' g', v = .tuple #[.int .i64 (snd (absN L) s l).1.1, .int .i64 (snd (absN L) s l).1.2] ∧ G = [.blk k (ntO mb s' t o), .mp (.int .i64) mb (List.map nc L'), .fz g'] ∧ Gle g g' ∧ EOk g' L' ∧ (snd (absN L) s l).2 = (absN L', s')
theorem SendP.keep {k mb s t o : Nat} {L : List (Int × Ent)} {g g' : Gh} {l : Lr} {a b : Int} (h : snd (absN L) s l = ((a, b), absN L, s)) (hg : Gle g g') (hE : EOk g L) : SendP k mb s t o L g l (.tuple #[.int .i64 a, .int .i64 b]) [.blk k (ntO mb s t o), .mp (.int .i64) mb (List.map nc L), .fz g'] :=
  ⟨L, s, g', by rw [h], rfl, hg, hE.mono hg, by rw [h]⟩
theorem SendP.more {k mb s t o : Nat} {L : List (Int × Ent)} {g g' : Gh} {l : Lr} {ad : Option Addr} {cap : Nat} (hR : rightL l = true) (hf : L.length < 1024) (hg : Gle g g') (hE : EOk g L) (hG : SlG g' ad (bv (encL l))) (hc : (encL l).length ≤ cap) :
    SendP k mb s t o L g l (.tuple #[.int .i64 ((s : Nat) : Int), .int .i64 0]) [.blk k (ntO mb (s + 1) t o), .mp (.int .i64) mb (List.map nc (L ++ [(((s : Nat) : Int), ⟨ad, cap, l⟩)])), .fz g'] := by
  have h := snd_ok (A := absN L) (s := s) (l := l) hR (by rw [absN_len]; exact hf)
  exact ⟨_, _, g', by rw [h], rfl, hg, (hE.mono hg).add hG hR hc, by rw [h, absN_app]; rfl⟩
attribute [local irreducible] Oper.wp Sem.run Code.wp wpList wpAnyO callFunc execOp Calls
attribute [local irreducible] toU short rencs renc rowE encRow rightB zig unzig decRw rightL risB lastN bitsOf nodesTo encL encLE sameL

set_option maxRecDepth 100000 in
theorem send_ok (k mb s t o : Nat) (L : List (Int × Ent)) (g : Gh) (hE : EOk g L) (hn : NumOk (absN L) s) (hs1 : s ≤ 1000000) (l : Lr) (n : Nat) (hnl : l.nd.length = n) (hm : n ≤ 2000000) (an : Option Addr) (cn : Nat) (w : World) (g2 : Gh) (hg2 : Rog [.blk k (ntO mb s t o), .mp (.int .i64) mb (List.map nc L), .fz g] w g2) (hG : SlG g2 an (iv l.nd)) (hS : St w (owns [.blk k (.cells #[.map (some mb), .int .i64 (s : Int), .int .i64 (t : Int), .int .i64 (o : Int)] 60), .mp (.int .i64) mb (List.map nc L), .fz g]) [.blk k (.cells #[.map (some mb), .int .i64 (s : Int), .int .i64 (t : Int), .int .i64 (o : Int)] 60), .mp (.int .i64) mb (List.map nc L), .fz g] w) : Calls Try.prog 10 #[pV k, .agg #[.int .i64 l.k, .int .i64 l.f, .int .i64 l.t, .int .i64 l.x, .slice an n cn]] w (Post w [.blk k (.cells #[.map (some mb), .int .i64 (s : Int), .int .i64 (t : Int), .int .i64 (o : Int)] 60), .mp (.int .i64) mb (List.map nc L), .fz g] fun v G => SendP k mb s t o L g l v G) := by
 subst hnl
 refine c_enter Try.func10 rfl rfl rfl ?_
 refine wp_seq_k (fun K1 hK1 => ?_)
 refine wp_region_lit ?_
 refine l_e rfl (fun K hK => ?_)
 refine e_boxA hS rfl (fun b2 w2 (hS2 : St _ _ [.blk b2 (.cells #[.int .i64 l.k, .int .i64 l.f, .int .i64 l.t, .int .i64 l.x, .slice an l.nd.length cn] 25), .blk k (.cells #[.map (some mb), .int .i64 (s : Int), .int .i64 (t : Int), .int .i64 (o : Int)] 60), .mp (.int .i64) mb (List.map nc L), .fz g] _) => ?_)
 clear hS
 refine hK _ _ ?_; clear hK K
 refine l_q rfl rfl (q_assignI rfl) ?_
 refine l_q rfl rfl (q_assignI rfl) ?_
 refine l_nil ?_
 refine hK1 _ _ ?_
 refine wp_seq_k (fun K3 hK3 => ?_)
 refine wp_seq_k (fun K4 hK4 => ?_)
 refine wp_region_lit ?_
 refine l_q rfl rfl (q_moveP rfl) ?_
 refine l_q rfl rfl (q_peq rfl (by kernel_rfl)) ?_
 refine l_nil ?_
 refine hK4 _ _ ?_
 refine c_condF rfl rfl ?_
 refine wp_skip ?_
 refine hK3 _ _ ?_
 refine wp_seq_k (fun K6 hK6 => ?_)
 refine wp_region_lit ?_
 refine l_q rfl rfl (q_loadA (m := 5) rfl (by kernel_rfl) (by kernel_rfl) (hS2.blk (i := 0) rfl) rfl rfl) ?_
 by_cases hR : rightL l = true
 ·
  refine l_e rfl (fun K hK => ?_)
  refine e_call (by kernel_rfl) (lenc_yes hR l.nd.length (by first | omega | (simp only [List.length_append, List.length_map, List.length_cons, List.length_nil, List.length_take, List.length_drop, List.length_set] <;> omega)) (by first | omega | (simp only [List.length_append, List.length_map, List.length_cons, List.length_nil, List.length_take, List.length_drop, List.length_set] <;> omega)) _ _ _ (hG.mono (hg2.le hS2))) rfl (after_N hS2 (fun v7 G7 w7 hv7 hS7 => ?_))
  clear hS2
  obtain ⟨oa7, oc7, rfl, rfl⟩ := hv7
  have hS8 : St _ _ [.ow 5 1 oa7 ((encL l).length) oc7 (bv (encL l)), _, _, _, .fz g] _ := hS7; clear hS7
  refine hK _ _ ?_; clear hK K
  refine l_q rfl rfl (q_move rfl) ?_
  refine l_q rfl rfl (q_extract rfl rfl) ?_
  refine l_q rfl rfl (q_extract rfl rfl) ?_
  refine l_q rfl rfl (q_assignS rfl) ?_
  refine l_q rfl rfl (q_assignI rfl) ?_
  refine l_nil ?_
  refine hK6 _ _ ?_
  refine wp_seq_k (fun K9 hK9 => ?_)
  refine wp_seq_k (fun K10 hK10 => ?_)
  refine wp_region_lit ?_
  refine l_q rfl rfl (q_moveI rfl) ?_
  refine l_q rfl rfl (q_neq rfl rfl) ?_
  refine l_nil ?_
  refine hK10 _ _ ?_
  refine c_condF rfl (by decide) ?_
  refine wp_skip ?_
  refine hK9 _ _ ?_
  refine wp_seq_k (fun K12 hK12 => ?_)
  have hcp := (hS8.owLen (i := 0) rfl).2.1
  have hS13 := hS8.fr4; clear hS8
  have hS14 := hS13.fr1; clear hS13
  obtain ⟨g15, hle15, hfz15, hS15⟩ := hS14.freezeOw; clear hS14
  refine wp_region_lit ?_
  refine l_q rfl rfl (q_moveP rfl) ?_
  refine l_q rfl rfl (q_moveS rfl) ?_
  by_cases hf : L.length < 1024
  ·
   refine l_e rfl (fun K hK => ?_)
   have hS17 := hS15.fr3; clear hS15
   have hS18 := hS17.fr3; clear hS17
   refine e_call (by kernel_rfl) (put_ok k mb s t o L oa7 oc7 l _ rfl hf hs1 hn.fresh _ (St.begin (Γ := [_, _]) hS18)) rfl (after_M (Γ1 := [_, _]) hS18 (fun v16 G16 w16 hv16 hS16 => ?_))
   clear hS18
   obtain ⟨rfl, rfl⟩ := hv16
   have hS19 : St _ _ [.blk k (.cells #[.map (some mb), .int .i64 (((s + 1) : Nat) : Int), .int .i64 (t : Int), .int .i64 (o : Int)] 60), .mp (.int .i64) mb (List.map nc (L ++ [((s : Int), ⟨oa7, oc7, l⟩)])), .fz g15, _] _ := hS16; clear hS16
   refine hK _ _ ?_; clear hK K
   refine l_q rfl rfl (q_extract rfl rfl) ?_
   refine l_q rfl rfl (q_extract rfl rfl) ?_
   refine l_q rfl rfl (q_assignI rfl) ?_
   refine l_q rfl rfl (q_assignI rfl) ?_
   refine l_nil ?_
   refine hK12 _ _ ?_
   refine wp_ret ?_
   refine c_ret2 rfl rfl rfl ?_
   have hS20 : St _ _ [_, _, .fz g15] _ := hS19.only 3; clear hS19
   exact ⟨_, _, rfl, SendP.more hR hf hle15 hE hfz15 hcp, hS20⟩
  ·
   refine l_e rfl (fun K hK => ?_)
   have hS22 := hS15.fr3; clear hS15
   have hS23 := hS22.fr3; clear hS22
   refine e_call (by kernel_rfl) (put_full k mb s t o L oa7 oc7 l _ rfl (by omega) _ (St.begin (Γ := [_, _]) hS23)) rfl (after_M (Γ1 := [_, _]) hS23 (fun v21 G21 w21 hv21 hS21 => ?_))
   clear hS23
   obtain ⟨rfl, rfl⟩ := hv21
   have hS24 : St _ _ [_, _, .fz g15, _] _ := hS21; clear hS21
   refine hK _ _ ?_; clear hK K
   refine l_q rfl rfl (q_extract rfl rfl) ?_
   refine l_q rfl rfl (q_extract rfl rfl) ?_
   refine l_q rfl rfl (q_assignI rfl) ?_
   refine l_q rfl rfl (q_assignI rfl) ?_
   refine l_nil ?_
   refine hK12 _ _ ?_
   refine wp_ret ?_
   refine c_ret2 rfl rfl rfl ?_
   have hS25 : St _ _ [_, _, .fz g15] _ := hS24.only 3; clear hS24
   exact ⟨_, _, rfl, SendP.keep (snd_full hR (by rw [absN_len]; omega)) hle15 hE, hS25⟩
 ·
  refine l_e rfl (fun K hK => ?_)
  refine e_call (by kernel_rfl) (lenc_no hR l.nd.length (by first | omega | (simp only [List.length_append, List.length_map, List.length_cons, List.length_nil, List.length_take, List.length_drop, List.length_set] <;> omega)) (by first | omega | (simp only [List.length_append, List.length_map, List.length_cons, List.length_nil, List.length_take, List.length_drop, List.length_set] <;> omega)) _ _ _ (hG.mono (hg2.le hS2))) rfl (after_N hS2 (fun v26 G26 w26 hv26 hS26 => ?_))
  clear hS2
  obtain ⟨oa26, oc26, rfl, rfl⟩ := hv26
  have hS27 : St _ _ [.ow 5 1 oa26 0 oc26 [], _, _, _, .fz g] _ := hS26; clear hS26
  refine hK _ _ ?_; clear hK K
  refine l_q rfl rfl (q_move rfl) ?_
  refine l_q rfl rfl (q_extract rfl rfl) ?_
  refine l_q rfl rfl (q_extract rfl rfl) ?_
  refine l_q rfl rfl (q_assignS rfl) ?_
  refine l_q rfl rfl (q_assignI rfl) ?_
  refine l_nil ?_
  refine hK6 _ _ ?_
  refine wp_seq_k (fun K28 hK28 => ?_)
  refine wp_seq_k (fun K29 hK29 => ?_)
  refine wp_region_lit ?_
  refine l_q rfl rfl (q_moveI rfl) ?_
  refine l_q rfl rfl (q_neq rfl rfl) ?_
  refine l_nil ?_
  refine hK29 _ _ ?_
  refine c_condT rfl (by decide) ?_
  refine wp_seq_k (fun K31 hK31 => ?_)
  refine wp_region_lit ?_
  refine l_q rfl rfl (q_moveI rfl) ?_
  refine l_q rfl rfl (q_assignI rfl) ?_
  refine l_q rfl rfl (q_assignI rfl) ?_
  refine l_nil ?_
  refine hK31 _ _ ?_
  refine wp_ret ?_
  refine c_ret2 rfl rfl rfl ?_
  have hS32 := hS27.fr4; clear hS27
  have hS33 := hS32.fr4; clear hS32
  have hS34 := hS33.fr4; clear hS33
  have hS35 : St _ _ [_, _, .fz g] _ := hS34.only 3; clear hS34
  exact ⟨_, _, rfl, SendP.keep (snd_no (by simpa using hR)) (Gle.refl _) hE, hS35⟩

set_option maxRecDepth 100000 in
theorem take_hit (k mb s t o : Nat) (L : List (Int × Ent)) (g : Gh) (hE : EOk g L) (ht : t ≤ 1000000) (n : Int) (e : Ent) (he : (n, e) ∈ L)  (w : World) (hS : St w (owns [.blk k (.cells #[.map (some mb), .int .i64 (s : Int), .int .i64 (t : Int), .int .i64 (o : Int)] 60), .mp (.int .i64) mb (List.map nc L), .fz g]) [.blk k (.cells #[.map (some mb), .int .i64 (s : Int), .int .i64 (t : Int), .int .i64 (o : Int)] 60), .mp (.int .i64) mb (List.map nc L), .fz g] w) : Calls Try.prog 14 #[pV k, .int .i64 n] w (Post w [.blk k (.cells #[.map (some mb), .int .i64 (s : Int), .int .i64 (t : Int), .int .i64 (o : Int)] 60), .mp (.int .i64) mb (List.map nc L), .fz g] fun v G => ∃ an cn, v = .tuple #[.agg (LV e.l an cn).toArray, .int .i64 0] ∧ G = [.blk k (ntO mb s (t + 1) o), .mp (.int .i64) mb (List.map nc (mdel L n)), .fz g, .ow 3 1 an e.l.nd.length cn (iv e.l.nd)]) := by
 have hd := nc_apart (hS.map (i := 1) rfl)
 refine c_enter Try.func14 rfl rfl rfl ?_
 refine wp_seq_k (fun K1 hK1 => ?_)
 refine wp_region_lit ?_
 refine l_e rfl (fun K hK => ?_)
 refine e_alloc (zv := .agg #[.int .i64 0, .int .i64 0, .int .i64 0, .int .i64 0, .slice none 0 0]) hS (by kernel_rfl) (fun b2 w2 (hS2 : St _ _ [.blk b2 (.cells #[.int .i64 (0 : Int), .int .i64 (0 : Int), .int .i64 (0 : Int), .int .i64 (0 : Int), .slice none 0 0] 25), .blk k (.cells #[.map (some mb), .int .i64 (s : Int), .int .i64 (t : Int), .int .i64 (o : Int)] 60), .mp (.int .i64) mb (List.map nc L), .fz g] _) => ?_)
 clear hS
 refine hK _ _ ?_; clear hK K
 refine l_q rfl rfl (q_assignI rfl) ?_
 refine l_nil ?_
 refine hK1 _ _ ?_
 refine wp_seq_k (fun K3 hK3 => ?_)
 refine wp_region_lit ?_
 refine l_q rfl rfl (q_moveP rfl) ?_
 refine l_q rfl rfl (q_moveI rfl) ?_
 refine l_e rfl (fun K hK => ?_)
 refine e_call (by kernel_rfl) (look_hit_ok k mb s t o L n e he _ (hS2.blk (i := 1) rfl) (hS2.map (i := 2) rfl) (hE.mono (hS2.fz (i := 3) rfl))) rfl (after_N hS2 (fun v4 G4 w4 hv4 hS4 => ?_))
 clear hS2
 obtain ⟨an4, cn4, rfl, rfl⟩ := hv4
 have hS5 : St _ _ [.ow 3 1 an4 e.l.nd.length cn4 (iv e.l.nd), _, _, _, .fz g] _ := hS4; clear hS4
 refine hK _ _ ?_; clear hK K
 refine l_q rfl rfl (q_move rfl) ?_
 refine l_q rfl rfl (q_extract rfl rfl) ?_
 refine l_q rfl rfl (q_extract rfl rfl) ?_
 refine l_e rfl (fun K hK => ?_)
 refine e_alloc (zv := .agg #[.int .i64 0, .int .i64 0, .int .i64 0, .int .i64 0, .slice none 0 0]) hS5 (by kernel_rfl) (fun b6 w6 (hS6 : St _ _ [.blk b6 (.cells #[.int .i64 (0 : Int), .int .i64 (0 : Int), .int .i64 (0 : Int), .int .i64 (0 : Int), .slice none 0 0] 25), _, _, _, _, .fz g] _) => ?_)
 clear hS5
 refine hK _ _ ?_; clear hK K
 refine l_e rfl (fun K hK => ?_)
 refine e_storeA hS6 rfl rfl (by kernel_rfl) (by repeat' (first | exact trivial | refine ⟨by first | rfl | assumption | exact one_if (by assumption), ?_⟩)) (i := 0) rfl rfl (fun w7 (hS7 : St _ _ [.blk b6 (.cells #[.int .i64 e.l.k, .int .i64 e.l.f, .int .i64 e.l.t, .int .i64 e.l.x, .slice an4 e.l.nd.length cn4] 25), _, _, _, _, .fz g] _) => ?_)
 clear hS6
 refine hK _ _ ?_; clear hK K
 refine l_q rfl rfl (q_assignI rfl) ?_
 refine l_nil ?_
 refine hK3 _ _ ?_
 refine wp_seq_k (fun K8 hK8 => ?_)
 refine wp_seq_k (fun K9 hK9 => ?_)
 refine wp_region_lit ?_
 refine l_q rfl rfl (q_moveI rfl) ?_
 refine l_q rfl rfl (q_eql rfl rfl) ?_
 refine l_nil ?_
 refine hK9 _ _ ?_
 refine c_condT rfl (by decide) ?_
 refine wp_seq_k (fun K11 hK11 => ?_)
 refine wp_region_lit ?_
 refine l_q rfl rfl (q_moveP rfl) ?_
 refine l_q rfl rfl (q_nilCheck rfl) ?_
 refine l_q rfl rfl (q_fieldAddr (ft := 58) (o := 0) rfl (by kernel_rfl)) ?_
 refine l_q rfl rfl (q_load1 rfl (by kernel_rfl) (hS7.cell (i := 3) rfl rfl)) ?_
 refine l_q rfl rfl (q_moveI rfl) ?_
 refine l_e rfl (fun K hK => ?_)
 refine e_mapDel (zv := .slice none 0 0) hS7 rfl rfl (by kernel_rfl) (by first | rfl | trivial) (i := 4) rfl (nc_del hd) (fun w12 (hS12 : St _ _ [_, _, _, _, .mp (.int .i64) mb (List.map nc (mdel L n)), .fz g] _) => ?_)
 clear hS7
 refine hK _ _ ?_; clear hK K
 refine l_nil ?_
 refine hK11 _ _ ?_
 refine wp_region_lit ?_
 refine l_q rfl rfl (q_moveP rfl) ?_
 refine l_q rfl rfl (q_nilCheck rfl) ?_
 refine l_q rfl rfl (q_fieldAddr (ft := 3) (o := 2) rfl (by kernel_rfl)) ?_
 refine l_q rfl rfl (q_load1 rfl (by kernel_rfl) (hS12.cell (i := 3) rfl rfl)) ?_
 refine l_q rfl rfl (q_addx rfl rfl (by first | decide | omega) (by first | decide | omega)) ?_
 refine l_q rfl rfl (q_nilCheck rfl) ?_
 refine l_q rfl rfl (q_fieldAddr (ft := 3) (o := 2) rfl (by kernel_rfl)) ?_
 refine l_e rfl (fun K hK => ?_)
 refine e_store1 hS12 rfl rfl (by kernel_rfl) (by first | rfl | assumption) (i := 3) rfl rfl (fun w13 (hS13 : St _ _ [_, _, _, .blk k (.cells #[.map (some mb), .int .i64 (s : Int), .int .i64 ((t : Int) + (1 : Int)), .int .i64 (o : Int)] 60), _, .fz g] _) => ?_)
 clear hS12
 refine hK _ _ ?_; clear hK K
 refine l_nil ?_
 refine hK8 _ _ ?_
 refine wp_seq_k (fun K14 hK14 => ?_)
 refine wp_region_lit ?_
 refine l_q rfl rfl (q_loadA (m := 5) rfl (by kernel_rfl) (by kernel_rfl) (hS13.blk (i := 0) rfl) rfl rfl) ?_
 refine l_q rfl rfl (q_moveI rfl) ?_
 refine l_e rfl (fun K hK => ?_)
 refine e_storeA hS13 rfl rfl (by kernel_rfl) (by repeat' (first | exact trivial | refine ⟨by first | rfl | assumption | exact one_if (by assumption), ?_⟩)) (i := 2) rfl rfl (fun w15 (hS15 : St _ _ [_, _, .blk b2 (.cells #[.int .i64 e.l.k, .int .i64 e.l.f, .int .i64 e.l.t, .int .i64 e.l.x, .slice an4 e.l.nd.length cn4] 25), _, _, .fz g] _) => ?_)
 clear hS13
 refine hK _ _ ?_; clear hK K
 refine l_q rfl rfl (q_assignI rfl) ?_
 refine l_nil ?_
 refine hK14 _ _ ?_
 refine wp_ret ?_
 refine c_retCT (m := 5) rfl (by kernel_rfl) (by kernel_rfl) rfl (hS15.blk (i := 2) rfl) rfl rfl ?_
 have hS16 := hS15.fr1; clear hS15
 have hS17 := hS16.fr5; clear hS16
 have hS18 := hS17.fr5; clear hS17
 have hS19 := hS18.fr5; clear hS18
 have hS20 : St _ _ [_, _, .fz g, _] _ := hS19.only 4; clear hS19
 exact ⟨_, _, rfl, ⟨an4, cn4, rfl, rfl⟩, hS20⟩

set_option maxRecDepth 100000 in
theorem take_miss (k mb s t o : Nat) (L : List (Int × Ent)) (g : Gh) (hE : EOk g L) (n : Int) (hn : ∀ q ∈ L, q.1 ≠ n)  (w : World) (hS : St w (owns [.blk k (.cells #[.map (some mb), .int .i64 (s : Int), .int .i64 (t : Int), .int .i64 (o : Int)] 60), .mp (.int .i64) mb (List.map nc L), .fz g]) [.blk k (.cells #[.map (some mb), .int .i64 (s : Int), .int .i64 (t : Int), .int .i64 (o : Int)] 60), .mp (.int .i64) mb (List.map nc L), .fz g] w) : Calls Try.prog 14 #[pV k, .int .i64 n] w (Post w [.blk k (.cells #[.map (some mb), .int .i64 (s : Int), .int .i64 (t : Int), .int .i64 (o : Int)] 60), .mp (.int .i64) mb (List.map nc L), .fz g] fun v G => v = .tuple #[.agg #[.int .i64 0, .int .i64 0, .int .i64 0, .int .i64 0, .slice none 0 0], .int .i64 121] ∧ G = [.blk k (ntO mb s t o), .mp (.int .i64) mb (List.map nc L), .fz g]) := by
 refine c_enter Try.func14 rfl rfl rfl ?_
 refine wp_seq_k (fun K1 hK1 => ?_)
 refine wp_region_lit ?_
 refine l_e rfl (fun K hK => ?_)
 refine e_alloc (zv := .agg #[.int .i64 0, .int .i64 0, .int .i64 0, .int .i64 0, .slice none 0 0]) hS (by kernel_rfl) (fun b2 w2 (hS2 : St _ _ [.blk b2 (.cells #[.int .i64 (0 : Int), .int .i64 (0 : Int), .int .i64 (0 : Int), .int .i64 (0 : Int), .slice none 0 0] 25), .blk k (.cells #[.map (some mb), .int .i64 (s : Int), .int .i64 (t : Int), .int .i64 (o : Int)] 60), .mp (.int .i64) mb (List.map nc L), .fz g] _) => ?_)
 clear hS
 refine hK _ _ ?_; clear hK K
 refine l_q rfl rfl (q_assignI rfl) ?_
 refine l_nil ?_
 refine hK1 _ _ ?_
 refine wp_seq_k (fun K3 hK3 => ?_)
 refine wp_region_lit ?_
 refine l_q rfl rfl (q_moveP rfl) ?_
 refine l_q rfl rfl (q_moveI rfl) ?_
 refine l_e rfl (fun K hK => ?_)
 refine e_call (by kernel_rfl) (look_miss_ok k mb s t o L n hn _ (hS2.blk (i := 1) rfl) (hS2.map (i := 2) rfl) (hE.mono (hS2.fz (i := 3) rfl))) rfl (after_R hS2 (fun v4 w4 hv4 hS4 => ?_))
 clear hS2
 obtain rfl := hv4
 refine hK _ _ ?_; clear hK K
 refine l_q rfl rfl (q_move rfl) ?_
 refine l_q rfl rfl (q_extract rfl rfl) ?_
 refine l_q rfl rfl (q_extract rfl rfl) ?_
 refine l_e rfl (fun K hK => ?_)
 refine e_alloc (zv := .agg #[.int .i64 0, .int .i64 0, .int .i64 0, .int .i64 0, .slice none 0 0]) hS4 (by kernel_rfl) (fun b5 w5 (hS5 : St _ _ [.blk b5 (.cells #[.int .i64 (0 : Int), .int .i64 (0 : Int), .int .i64 (0 : Int), .int .i64 (0 : Int), .slice none 0 0] 25), _, _, _, .fz g] _) => ?_)
 clear hS4
 refine hK _ _ ?_; clear hK K
 refine l_e rfl (fun K hK => ?_)
 refine e_storeA hS5 rfl rfl (by kernel_rfl) (by repeat' (first | exact trivial | refine ⟨by first | rfl | assumption | exact one_if (by assumption), ?_⟩)) (i := 0) rfl rfl (fun w6 (hS6 : St _ _ [_, _, _, _, .fz g] _) => ?_)
 clear hS5
 refine hK _ _ ?_; clear hK K
 refine l_q rfl rfl (q_assignI rfl) ?_
 refine l_nil ?_
 refine hK3 _ _ ?_
 refine wp_seq_k (fun K7 hK7 => ?_)
 refine wp_seq_k (fun K8 hK8 => ?_)
 refine wp_region_lit ?_
 refine l_q rfl rfl (q_moveI rfl) ?_
 refine l_q rfl rfl (q_eql rfl rfl) ?_
 refine l_nil ?_
 refine hK8 _ _ ?_
 refine c_condF rfl (by decide) ?_
 refine wp_skip ?_
 refine hK7 _ _ ?_
 refine wp_seq_k (fun K10 hK10 => ?_)
 refine wp_region_lit ?_
 refine l_q rfl rfl (q_loadA (m := 5) rfl (by kernel_rfl) (by kernel_rfl) (hS6.blk (i := 0) rfl) rfl rfl) ?_
 refine l_q rfl rfl (q_moveI rfl) ?_
 refine l_e rfl (fun K hK => ?_)
 refine e_storeA hS6 rfl rfl (by kernel_rfl) (by repeat' (first | exact trivial | refine ⟨by first | rfl | assumption | exact one_if (by assumption), ?_⟩)) (i := 1) rfl rfl (fun w11 (hS11 : St _ _ [_, _, _, _, .fz g] _) => ?_)
 clear hS6
 refine hK _ _ ?_; clear hK K
 refine l_q rfl rfl (q_assignI rfl) ?_
 refine l_nil ?_
 refine hK10 _ _ ?_
 refine wp_ret ?_
 refine c_retCT (m := 5) rfl (by kernel_rfl) (by kernel_rfl) rfl (hS11.blk (i := 1) rfl) rfl rfl ?_
 have hS12 := hS11.fr4; clear hS11
 have hS13 := hS12.fr4; clear hS12
 have hS14 := hS13.fr4; clear hS13
 have hS15 : St _ _ [_, _, .fz g] _ := hS14.only 3; clear hS14
 exact ⟨_, _, rfl, ⟨rfl, rfl⟩, hS15⟩

set_option maxRecDepth 100000 in
theorem lose_hit (k mb s t o : Nat) (L : List (Int × Ent)) (g : Gh) (hE : EOk g L) (ho : o ≤ 1000000) (n : Int) (e : Ent) (he : (n, e) ∈ L)  (w : World) (hS : St w (owns [.blk k (.cells #[.map (some mb), .int .i64 (s : Int), .int .i64 (t : Int), .int .i64 (o : Int)] 60), .mp (.int .i64) mb (List.map nc L), .fz g]) [.blk k (.cells #[.map (some mb), .int .i64 (s : Int), .int .i64 (t : Int), .int .i64 (o : Int)] 60), .mp (.int .i64) mb (List.map nc L), .fz g] w) : Calls Try.prog 13 #[pV k, .int .i64 n] w (Post w [.blk k (.cells #[.map (some mb), .int .i64 (s : Int), .int .i64 (t : Int), .int .i64 (o : Int)] 60), .mp (.int .i64) mb (List.map nc L), .fz g] fun v G => v = .int .i64 0 ∧ G = [.blk k (ntO mb s t (o + 1)), .mp (.int .i64) mb (List.map nc (mdel L n)), .fz g]) := by
 have hd := nc_apart (hS.map (i := 1) rfl)
 refine c_enter Try.func13 rfl rfl rfl ?_
 refine wp_seq_k (fun K1 hK1 => ?_)
 refine wp_region_lit ?_
 refine l_q rfl rfl (q_assignI rfl) ?_
 refine l_nil ?_
 refine hK1 _ _ ?_
 refine wp_seq_k (fun K2 hK2 => ?_)
 refine wp_region_lit ?_
 refine l_q rfl rfl (q_moveP rfl) ?_
 refine l_q rfl rfl (q_moveI rfl) ?_
 refine l_e rfl (fun K hK => ?_)
 refine e_call (by kernel_rfl) (look_hit_ok k mb s t o L n e he _ (hS.blk (i := 0) rfl) (hS.map (i := 1) rfl) (hE.mono (hS.fz (i := 2) rfl))) rfl (after_N hS (fun v3 G3 w3 hv3 hS3 => ?_))
 clear hS
 obtain ⟨an3, cn3, rfl, rfl⟩ := hv3
 have hS4 : St _ _ [.ow 3 1 an3 e.l.nd.length cn3 (iv e.l.nd), .blk k (.cells #[.map (some mb), .int .i64 (s : Int), .int .i64 (t : Int), .int .i64 (o : Int)] 60), .mp (.int .i64) mb (List.map nc L), .fz g] _ := hS3; clear hS3
 refine hK _ _ ?_; clear hK K
 refine l_q rfl rfl (q_move rfl) ?_
 refine l_q rfl rfl (q_extract rfl rfl) ?_
 refine l_q rfl rfl (q_extract rfl rfl) ?_
 refine l_e rfl (fun K hK => ?_)
 refine e_alloc (zv := .agg #[.int .i64 0, .int .i64 0, .int .i64 0, .int .i64 0, .slice none 0 0]) hS4 (by kernel_rfl) (fun b5 w5 (hS5 : St _ _ [.blk b5 (.cells #[.int .i64 (0 : Int), .int .i64 (0 : Int), .int .i64 (0 : Int), .int .i64 (0 : Int), .slice none 0 0] 25), _, _, _, .fz g] _) => ?_)
 clear hS4
 refine hK _ _ ?_; clear hK K
 refine l_e rfl (fun K hK => ?_)
 refine e_storeA hS5 rfl rfl (by kernel_rfl) (by repeat' (first | exact trivial | refine ⟨by first | rfl | assumption | exact one_if (by assumption), ?_⟩)) (i := 0) rfl rfl (fun w6 (hS6 : St _ _ [.blk b5 (.cells #[.int .i64 e.l.k, .int .i64 e.l.f, .int .i64 e.l.t, .int .i64 e.l.x, .slice an3 e.l.nd.length cn3] 25), _, _, _, .fz g] _) => ?_)
 clear hS5
 refine hK _ _ ?_; clear hK K
 refine l_q rfl rfl (q_assignI rfl) ?_
 refine l_nil ?_
 refine hK2 _ _ ?_
 refine wp_seq_k (fun K7 hK7 => ?_)
 refine wp_seq_k (fun K8 hK8 => ?_)
 refine wp_region_lit ?_
 refine l_q rfl rfl (q_moveI rfl) ?_
 refine l_q rfl rfl (q_eql rfl rfl) ?_
 refine l_nil ?_
 refine hK8 _ _ ?_
 refine c_condT rfl (by decide) ?_
 refine wp_seq_k (fun K10 hK10 => ?_)
 refine wp_region_lit ?_
 refine l_q rfl rfl (q_moveP rfl) ?_
 refine l_q rfl rfl (q_nilCheck rfl) ?_
 refine l_q rfl rfl (q_fieldAddr (ft := 58) (o := 0) rfl (by kernel_rfl)) ?_
 refine l_q rfl rfl (q_load1 rfl (by kernel_rfl) (hS6.cell (i := 2) rfl rfl)) ?_
 refine l_q rfl rfl (q_moveI rfl) ?_
 refine l_e rfl (fun K hK => ?_)
 refine e_mapDel (zv := .slice none 0 0) hS6 rfl rfl (by kernel_rfl) (by first | rfl | trivial) (i := 3) rfl (nc_del hd) (fun w11 (hS11 : St _ _ [_, _, _, .mp (.int .i64) mb (List.map nc (mdel L n)), .fz g] _) => ?_)
 clear hS6
 refine hK _ _ ?_; clear hK K
 refine l_nil ?_
 refine hK10 _ _ ?_
 refine wp_region_lit ?_
 refine l_q rfl rfl (q_moveP rfl) ?_
 refine l_q rfl rfl (q_nilCheck rfl) ?_
 refine l_q rfl rfl (q_fieldAddr (ft := 3) (o := 3) rfl (by kernel_rfl)) ?_
 refine l_q rfl rfl (q_load1 rfl (by kernel_rfl) (hS11.cell (i := 2) rfl rfl)) ?_
 refine l_q rfl rfl (q_addx rfl rfl (by first | decide | omega) (by first | decide | omega)) ?_
 refine l_q rfl rfl (q_nilCheck rfl) ?_
 refine l_q rfl rfl (q_fieldAddr (ft := 3) (o := 3) rfl (by kernel_rfl)) ?_
 refine l_e rfl (fun K hK => ?_)
 refine e_store1 hS11 rfl rfl (by kernel_rfl) (by first | rfl | assumption) (i := 2) rfl rfl (fun w12 (hS12 : St _ _ [_, _, .blk k (.cells #[.map (some mb), .int .i64 (s : Int), .int .i64 (t : Int), .int .i64 ((o : Int) + (1 : Int))] 60), _, .fz g] _) => ?_)
 clear hS11
 refine hK _ _ ?_; clear hK K
 refine l_nil ?_
 refine hK7 _ _ ?_
 refine wp_seq_k (fun K13 hK13 => ?_)
 refine wp_region_lit ?_
 refine l_q rfl rfl (q_moveI rfl) ?_
 refine l_q rfl rfl (q_assignI rfl) ?_
 refine l_nil ?_
 refine hK13 _ _ ?_
 refine wp_ret ?_
 refine c_ret1 rfl rfl ?_
 have hS14 := hS12.fr4; clear hS12
 have hS15 := hS14.fr4; clear hS14
 have hS16 := hS15.fr4; clear hS15
 have hS17 : St _ _ [_, _, .fz g] _ := hS16.only 3; clear hS16
 exact ⟨_, _, rfl, ⟨rfl, rfl⟩, hS17⟩

set_option maxRecDepth 100000 in
theorem lose_miss (k mb s t o : Nat) (L : List (Int × Ent)) (g : Gh) (hE : EOk g L) (n : Int) (hn : ∀ q ∈ L, q.1 ≠ n)  (w : World) (hS : St w (owns [.blk k (.cells #[.map (some mb), .int .i64 (s : Int), .int .i64 (t : Int), .int .i64 (o : Int)] 60), .mp (.int .i64) mb (List.map nc L), .fz g]) [.blk k (.cells #[.map (some mb), .int .i64 (s : Int), .int .i64 (t : Int), .int .i64 (o : Int)] 60), .mp (.int .i64) mb (List.map nc L), .fz g] w) : Calls Try.prog 13 #[pV k, .int .i64 n] w (Post w [.blk k (.cells #[.map (some mb), .int .i64 (s : Int), .int .i64 (t : Int), .int .i64 (o : Int)] 60), .mp (.int .i64) mb (List.map nc L), .fz g] fun v G => v = .int .i64 121 ∧ G = [.blk k (ntO mb s t o), .mp (.int .i64) mb (List.map nc L), .fz g]) := by
 refine c_enter Try.func13 rfl rfl rfl ?_
 refine wp_seq_k (fun K1 hK1 => ?_)
 refine wp_region_lit ?_
 refine l_q rfl rfl (q_assignI rfl) ?_
 refine l_nil ?_
 refine hK1 _ _ ?_
 refine wp_seq_k (fun K2 hK2 => ?_)
 refine wp_region_lit ?_
 refine l_q rfl rfl (q_moveP rfl) ?_
 refine l_q rfl rfl (q_moveI rfl) ?_
 refine l_e rfl (fun K hK => ?_)
 refine e_call (by kernel_rfl) (look_miss_ok k mb s t o L n hn _ (hS.blk (i := 0) rfl) (hS.map (i := 1) rfl) (hE.mono (hS.fz (i := 2) rfl))) rfl (after_R hS (fun v3 w3 hv3 hS3 => ?_))
 clear hS
 obtain rfl := hv3
 refine hK _ _ ?_; clear hK K
 refine l_q rfl rfl (q_move rfl) ?_
 refine l_q rfl rfl (q_extract rfl rfl) ?_
 refine l_q rfl rfl (q_extract rfl rfl) ?_
 refine l_e rfl (fun K hK => ?_)
 refine e_alloc (zv := .agg #[.int .i64 0, .int .i64 0, .int .i64 0, .int .i64 0, .slice none 0 0]) hS3 (by kernel_rfl) (fun b4 w4 (hS4 : St _ _ [.blk b4 (.cells #[.int .i64 (0 : Int), .int .i64 (0 : Int), .int .i64 (0 : Int), .int .i64 (0 : Int), .slice none 0 0] 25), .blk k (.cells #[.map (some mb), .int .i64 (s : Int), .int .i64 (t : Int), .int .i64 (o : Int)] 60), .mp (.int .i64) mb (List.map nc L), .fz g] _) => ?_)
 clear hS3
 refine hK _ _ ?_; clear hK K
 refine l_e rfl (fun K hK => ?_)
 refine e_storeA hS4 rfl rfl (by kernel_rfl) (by repeat' (first | exact trivial | refine ⟨by first | rfl | assumption | exact one_if (by assumption), ?_⟩)) (i := 0) rfl rfl (fun w5 (hS5 : St _ _ [_, _, _, .fz g] _) => ?_)
 clear hS4
 refine hK _ _ ?_; clear hK K
 refine l_q rfl rfl (q_assignI rfl) ?_
 refine l_nil ?_
 refine hK2 _ _ ?_
 refine wp_seq_k (fun K6 hK6 => ?_)
 refine wp_seq_k (fun K7 hK7 => ?_)
 refine wp_region_lit ?_
 refine l_q rfl rfl (q_moveI rfl) ?_
 refine l_q rfl rfl (q_eql rfl rfl) ?_
 refine l_nil ?_
 refine hK7 _ _ ?_
 refine c_condF rfl (by decide) ?_
 refine wp_skip ?_
 refine hK6 _ _ ?_
 refine wp_seq_k (fun K9 hK9 => ?_)
 refine wp_region_lit ?_
 refine l_q rfl rfl (q_moveI rfl) ?_
 refine l_q rfl rfl (q_assignI rfl) ?_
 refine l_nil ?_
 refine hK9 _ _ ?_
 refine wp_ret ?_
 refine c_ret1 rfl rfl ?_
 have hS10 := hS5.fr3; clear hS5
 have hS11 := hS10.fr3; clear hS10
 have hS12 := hS11.fr3; clear hS11
 have hS13 : St _ _ [_, _, .fz g] _ := hS12.only 3; clear hS12
 exact ⟨_, _, rfl, ⟨rfl, rfl⟩, hS13⟩

set_option maxRecDepth 100000 in
theorem twice_hit (k mb s t o : Nat) (L : List (Int × Ent)) (g : Gh) (hE : EOk g L) (hn : NumOk (absN L) s) (hs1 : s ≤ 1000000) (n : Int) (e : Ent) (he : (n, e) ∈ L)  (w : World) (hS : St w (owns [.blk k (.cells #[.map (some mb), .int .i64 (s : Int), .int .i64 (t : Int), .int .i64 (o : Int)] 60), .mp (.int .i64) mb (List.map nc L), .fz g]) [.blk k (.cells #[.map (some mb), .int .i64 (s : Int), .int .i64 (t : Int), .int .i64 (o : Int)] 60), .mp (.int .i64) mb (List.map nc L), .fz g] w) : Calls Try.prog 12 #[pV k, .int .i64 n] w (Post w [.blk k (.cells #[.map (some mb), .int .i64 (s : Int), .int .i64 (t : Int), .int .i64 (o : Int)] 60), .mp (.int .i64) mb (List.map nc L), .fz g] fun v G => SendP k mb s t o L g e.l v G) := by
 refine c_enter Try.func12 rfl rfl rfl ?_
 refine wp_seq_k (fun K1 hK1 => ?_)
 refine wp_region_lit ?_
 refine l_q rfl rfl (q_assignI rfl) ?_
 refine l_q rfl rfl (q_assignI rfl) ?_
 refine l_nil ?_
 refine hK1 _ _ ?_
 refine wp_seq_k (fun K2 hK2 => ?_)
 refine wp_seq_k (fun K3 hK3 => ?_)
 refine wp_region_lit ?_
 refine l_q rfl rfl (q_moveP rfl) ?_
 refine l_q rfl rfl (q_moveI rfl) ?_
 refine l_e rfl (fun K hK => ?_)
 refine e_call (by kernel_rfl) (look_hit_ok k mb s t o L n e he _ (hS.blk (i := 0) rfl) (hS.map (i := 1) rfl) (hE.mono (hS.fz (i := 2) rfl))) rfl (after_N hS (fun v4 G4 w4 hv4 hS4 => ?_))
 clear hS
 obtain ⟨an4, cn4, rfl, rfl⟩ := hv4
 have hS5 : St _ _ [.ow 3 1 an4 e.l.nd.length cn4 (iv e.l.nd), .blk k (.cells #[.map (some mb), .int .i64 (s : Int), .int .i64 (t : Int), .int .i64 (o : Int)] 60), .mp (.int .i64) mb (List.map nc L), .fz g] _ := hS4; clear hS4
 refine hK _ _ ?_; clear hK K
 refine l_q rfl rfl (q_move rfl) ?_
 refine l_q rfl rfl (q_extract rfl rfl) ?_
 refine l_q rfl rfl (q_extract rfl rfl) ?_
 refine l_e rfl (fun K hK => ?_)
 refine e_alloc (zv := .agg #[.int .i64 0, .int .i64 0, .int .i64 0, .int .i64 0, .slice none 0 0]) hS5 (by kernel_rfl) (fun b6 w6 (hS6 : St _ _ [.blk b6 (.cells #[.int .i64 (0 : Int), .int .i64 (0 : Int), .int .i64 (0 : Int), .int .i64 (0 : Int), .slice none 0 0] 25), _, _, _, .fz g] _) => ?_)
 clear hS5
 refine hK _ _ ?_; clear hK K
 refine l_e rfl (fun K hK => ?_)
 refine e_storeA hS6 rfl rfl (by kernel_rfl) (by repeat' (first | exact trivial | refine ⟨by first | rfl | assumption | exact one_if (by assumption), ?_⟩)) (i := 0) rfl rfl (fun w7 (hS7 : St _ _ [.blk b6 (.cells #[.int .i64 e.l.k, .int .i64 e.l.f, .int .i64 e.l.t, .int .i64 e.l.x, .slice an4 e.l.nd.length cn4] 25), _, _, _, .fz g] _) => ?_)
 clear hS6
 refine hK _ _ ?_; clear hK K
 refine l_q rfl rfl (q_assignI rfl) ?_
 refine l_nil ?_
 refine hK3 _ _ ?_
 refine wp_seq_k (fun K8 hK8 => ?_)
 refine wp_region_lit ?_
 refine l_q rfl rfl (q_moveI rfl) ?_
 refine l_q rfl rfl (q_neq rfl rfl) ?_
 refine l_nil ?_
 refine hK8 _ _ ?_
 refine c_condF rfl (by decide) ?_
 refine wp_skip ?_
 refine hK2 _ _ ?_
 refine wp_seq_k (fun K10 hK10 => ?_)
 refine wp_region_lit ?_
 refine l_q rfl rfl (q_moveP rfl) ?_
 refine l_q rfl rfl (q_moveP rfl) ?_
 refine l_q rfl rfl (q_nilCheck rfl) ?_
 refine l_q rfl rfl (q_fieldAddr (ft := 58) (o := 0) rfl (by kernel_rfl)) ?_
 refine l_q rfl rfl (q_load1 rfl (by kernel_rfl) (hS7.cell (i := 2) rfl rfl)) ?_
 refine l_q rfl rfl (q_moveI rfl) ?_
 refine l_q rfl rfl (q_lookHit1 (zv := .slice none 0 0) rfl rfl (by kernel_rfl) (by first | rfl | trivial) (hS7.map (i := 3) rfl) (look_hit he rfl)) ?_
 by_cases hf : L.length < 1024
 ·
  refine l_e rfl (fun K hK => ?_)
  have hS12 := hS7.fr3; clear hS7
  have hS13 := hS12.fr3; clear hS12
  refine e_call (by kernel_rfl) (put_ok k mb s t o L e.ad e.cap e.l _ rfl hf hs1 hn.fresh _ (St.begin (Γ := [_, _]) hS13)) rfl (after_M (Γ1 := [_, _]) hS13 (fun v11 G11 w11 hv11 hS11 => ?_))
  clear hS13
  obtain ⟨rfl, rfl⟩ := hv11
  have hS14 : St _ _ [.blk k (.cells #[.map (some mb), .int .i64 (((s + 1) : Nat) : Int), .int .i64 (t : Int), .int .i64 (o : Int)] 60), .mp (.int .i64) mb (List.map nc (L ++ [((s : Int), ⟨e.ad, e.cap, e.l⟩)])), _, _, .fz g] _ := hS11; clear hS11
  refine hK _ _ ?_; clear hK K
  refine l_q rfl rfl (q_extract rfl rfl) ?_
  refine l_q rfl rfl (q_extract rfl rfl) ?_
  refine l_q rfl rfl (q_assignI rfl) ?_
  refine l_q rfl rfl (q_assignI rfl) ?_
  refine l_nil ?_
  refine hK10 _ _ ?_
  refine wp_ret ?_
  refine c_ret2 rfl rfl rfl ?_
  have hS15 := hS14.fr4; clear hS14
  have hS16 := hS15.fr2; clear hS15
  have hS17 := hS16.fr2; clear hS16
  have hS18 : St _ _ [_, _, .fz g] _ := hS17.only 3; clear hS17
  exact ⟨_, _, rfl, SendP.more (hE _ he).2.1 hf (Gle.refl _) hE (hE _ he).1 (hE _ he).2.2, hS18⟩
 ·
  refine l_e rfl (fun K hK => ?_)
  have hS20 := hS7.fr3; clear hS7
  have hS21 := hS20.fr3; clear hS20
  refine e_call (by kernel_rfl) (put_full k mb s t o L e.ad e.cap e.l _ rfl (by omega) _ (St.begin (Γ := [_, _]) hS21)) rfl (after_M (Γ1 := [_, _]) hS21 (fun v19 G19 w19 hv19 hS19 => ?_))
  clear hS21
  obtain ⟨rfl, rfl⟩ := hv19
  have hS22 : St _ _ [_, _, _, _, .fz g] _ := hS19; clear hS19
  refine hK _ _ ?_; clear hK K
  refine l_q rfl rfl (q_extract rfl rfl) ?_
  refine l_q rfl rfl (q_extract rfl rfl) ?_
  refine l_q rfl rfl (q_assignI rfl) ?_
  refine l_q rfl rfl (q_assignI rfl) ?_
  refine l_nil ?_
  refine hK10 _ _ ?_
  refine wp_ret ?_
  refine c_ret2 rfl rfl rfl ?_
  have hS23 := hS22.fr4; clear hS22
  have hS24 := hS23.fr2; clear hS23
  have hS25 := hS24.fr2; clear hS24
  have hS26 : St _ _ [_, _, .fz g] _ := hS25.only 3; clear hS25
  exact ⟨_, _, rfl, SendP.keep (snd_full (hE _ he).2.1 (by rw [absN_len]; omega)) (Gle.refl _) hE, hS26⟩

set_option maxRecDepth 100000 in
theorem twice_miss (k mb s t o : Nat) (L : List (Int × Ent)) (g : Gh) (hE : EOk g L) (n : Int) (hn : ∀ q ∈ L, q.1 ≠ n)  (w : World) (hS : St w (owns [.blk k (.cells #[.map (some mb), .int .i64 (s : Int), .int .i64 (t : Int), .int .i64 (o : Int)] 60), .mp (.int .i64) mb (List.map nc L), .fz g]) [.blk k (.cells #[.map (some mb), .int .i64 (s : Int), .int .i64 (t : Int), .int .i64 (o : Int)] 60), .mp (.int .i64) mb (List.map nc L), .fz g] w) : Calls Try.prog 12 #[pV k, .int .i64 n] w (Post w [.blk k (.cells #[.map (some mb), .int .i64 (s : Int), .int .i64 (t : Int), .int .i64 (o : Int)] 60), .mp (.int .i64) mb (List.map nc L), .fz g] fun v G => v = .tuple #[.int .i64 0, .int .i64 121] ∧ G = [.blk k (ntO mb s t o), .mp (.int .i64) mb (List.map nc L), .fz g]) := by
 refine c_enter Try.func12 rfl rfl rfl ?_
 refine wp_seq_k (fun K1 hK1 => ?_)
 refine wp_region_lit ?_
 refine l_q rfl rfl (q_assignI rfl) ?_
 refine l_q rfl rfl (q_assignI rfl) ?_
 refine l_nil ?_
 refine hK1 _ _ ?_
 refine wp_seq_k (fun K2 hK2 => ?_)
 refine wp_seq_k (fun K3 hK3 => ?_)
 refine wp_region_lit ?_
 refine l_q rfl rfl (q_moveP rfl) ?_
 refine l_q rfl rfl (q_moveI rfl) ?_
 refine l_e rfl (fun K hK => ?_)
 refine e_call (by kernel_rfl) (look_miss_ok k mb s t o L n hn _ (hS.blk (i := 0) rfl) (hS.map (i := 1) rfl) (hE.mono (hS.fz (i := 2) rfl))) rfl (after_R hS (fun v4 w4 hv4 hS4 => ?_))
 clear hS
 obtain rfl := hv4
 refine hK _ _ ?_; clear hK K
 refine l_q rfl rfl (q_move rfl) ?_
 refine l_q rfl rfl (q_extract rfl rfl) ?_
 refine l_q rfl rfl (q_extract rfl rfl) ?_
 refine l_e rfl (fun K hK => ?_)
 refine e_alloc (zv := .agg #[.int .i64 0, .int .i64 0, .int .i64 0, .int .i64 0, .slice none 0 0]) hS4 (by kernel_rfl) (fun b5 w5 (hS5 : St _ _ [.blk b5 (.cells #[.int .i64 (0 : Int), .int .i64 (0 : Int), .int .i64 (0 : Int), .int .i64 (0 : Int), .slice none 0 0] 25), .blk k (.cells #[.map (some mb), .int .i64 (s : Int), .int .i64 (t : Int), .int .i64 (o : Int)] 60), .mp (.int .i64) mb (List.map nc L), .fz g] _) => ?_)
 clear hS4
 refine hK _ _ ?_; clear hK K
 refine l_e rfl (fun K hK => ?_)
 refine e_storeA hS5 rfl rfl (by kernel_rfl) (by repeat' (first | exact trivial | refine ⟨by first | rfl | assumption | exact one_if (by assumption), ?_⟩)) (i := 0) rfl rfl (fun w6 (hS6 : St _ _ [_, _, _, .fz g] _) => ?_)
 clear hS5
 refine hK _ _ ?_; clear hK K
 refine l_q rfl rfl (q_assignI rfl) ?_
 refine l_nil ?_
 refine hK3 _ _ ?_
 refine wp_seq_k (fun K7 hK7 => ?_)
 refine wp_region_lit ?_
 refine l_q rfl rfl (q_moveI rfl) ?_
 refine l_q rfl rfl (q_neq rfl rfl) ?_
 refine l_nil ?_
 refine hK7 _ _ ?_
 refine c_condT rfl (by decide) ?_
 refine wp_seq_k (fun K9 hK9 => ?_)
 refine wp_region_lit ?_
 refine l_q rfl rfl (q_moveI rfl) ?_
 refine l_q rfl rfl (q_assignI rfl) ?_
 refine l_q rfl rfl (q_assignI rfl) ?_
 refine l_nil ?_
 refine hK9 _ _ ?_
 refine wp_ret ?_
 refine c_ret2 rfl rfl rfl ?_
 have hS10 := hS6.fr3; clear hS6
 have hS11 := hS10.fr3; clear hS10
 have hS12 := hS11.fr3; clear hS11
 have hS13 : St _ _ [_, _, .fz g] _ := hS12.only 3; clear hS12
 exact ⟨_, _, rfl, ⟨rfl, rfl⟩, hS13⟩

end Go.Proofs.Ytlplhlncdfhhoaa
