/- The catalog: the document's Row, Part. -/
import Derived.Test.YtmemgpcgjephmaaDoorCi
import Derived.Test.YtmemgpcgjephmaaDoorSs
set_option linter.unusedVariables false
set_option linter.unusedSimpArgs false
namespace Go.Proofs.YtmemgpcgjephmaaDoor
open Go.RowKit
def RrowV (t : Tb) (L : List Vl) (v : Value) (G : List Ch) : Prop := (∃ c a, c ≠ 0 ∧ RwA t L c a ∧ v = .tuple #[.slice none 0 0, .agg #[.int .i64 c, .int .i64 a]] ∧ G = []) ∨
  (RwP t L ∧ ∃ ad cap, v = .tuple #[.slice ad t.key.toNat cap, .agg #[.int .i64 0, .int .i64 (-1)]] ∧ G = [.ow 32 3 ad t.key.toNat cap (List.flatMap vl (L.take t.key.toNat))])
theorem RrowV.yes {t : Tb} {L : List Vl} {v : Value} {G : List Ch} (h : RrowV t L v G) (hp : RwP t L) : ∃ ad cap, v = .tuple #[.slice ad t.key.toNat cap, .agg #[.int .i64 0, .int .i64 (-1)]] ∧ G = [.ow 32 3 ad t.key.toNat cap (List.flatMap vl (L.take t.key.toNat))] := by
  rcases h with ⟨c, a, h1, h2, _⟩ | ⟨_, h⟩
  · exact absurd (h2.yes hp).1 h1
  · exact h
theorem RrowV.no {t : Tb} {L : List Vl} {v : Value} {G : List Ch} (h : RrowV t L v G) (hp : ¬RwP t L) : ∃ c a, (c ≠ 0 ∧ RwA t L c a) ∧ v = .tuple #[.slice none 0 0, .agg #[.int .i64 c, .int .i64 a]] ∧ G = [] := by
  rcases h with ⟨c, a, h1, h2, h3, h4⟩ | ⟨h, _⟩
  · exact ⟨c, a, ⟨h1, h2⟩, h3, h4⟩
  · exact absurd h hp
theorem RrowV.of {t : Tb} {L : List Vl} {c a : Int} (h : RwA t L c a) (hc : c ≠ 0) : RrowV t L (.tuple #[.slice none 0 0, .agg #[.int .i64 c, .int .i64 a]]) [] := .inl ⟨c, a, hc, h, rfl, rfl⟩
/-- How many bounds are not above. -/
def cntB (l : List Vl) (v : Vl) : Nat := l.countP fun b => decide (vcmp b v ≤ 0)
theorem cntB_0 (l : List Vl) (v : Vl) : 0 = cntB (l.take 0) v := by unfold cntB; rfl
theorem cntB_le (l : List Vl) (v : Vl) : cntB l v ≤ l.length := List.countP_le_length
theorem cntB_take {l : List Vl} {v : Vl} {i : Nat} {x : Vl} (hx : l[i]? = some x) : cntB (l.take (i + 1)) v = cntB (l.take i) v + if vcmp x v ≤ 0 then 1 else 0 := by
  unfold cntB
  rw [List.take_add_one, hx, List.countP_append]
  show _ + List.countP _ [x] = _
  rw [List.countP_singleton]
  simp only [decide_eq_true_eq]
theorem PtA.ok {t : Tb} {L : List Vl} {z : Int} (hp : PtP t L) (hk : KdTo t L L.length) (hz : z = ((partN t L : Nat) : Int)) : PtA t L z 0 (-1) := .inr (.inr ⟨hp, hk, hz, rfl, rfl⟩)
theorem part_cnt {t : Tb} {L : List Vl} {v : Vl} (hR : RtP t) (h : ¬0 < t.pt) (hv : L[0]? = some v) {i : Nat} (hi : t.bd.length ≤ i) : cntB (t.bd.take i) v = partN t L := by
  rw [partN_over h hv, List.take_of_length_le hi]
  exact over_all hR.1.2.2.2.2.2.2.2.2.2
attribute [local irreducible] Oper.wp Sem.run Code.wp wpList wpAnyO callFunc execOp Calls
attribute [local irreducible] toU enc encR rightB vcmp pB okc hashB hashF overN partN overI RtA RwA PtA partsN
attribute [local irreducible] cntB

set_option maxHeartbeats 2000000 in
set_option maxRecDepth 100000 in
theorem rrow_ok (t : Tb) (htn : Bytes t.nm) (htc : CsOk t.cs) (htb : VsOk t.bd) (nc nb : Nat) (hnc : t.cs.length = nc) (hnb : t.bd.length = nb) (hmc : nc ≤ 2000000) (hmb : nb ≤ 2000000) (hRt : RtP t) (L : List Vl) (hL : VsOk L) (n : Nat) (hn : L.length = n) (hm : n ≤ 2000000) (al : Option Addr) (cl : Nat) (hcl : n ≤ cl) (w : World) (hG : SlG (hw w) al (List.flatMap vl L)) (ca ba : Option Addr) (cca cba : Nat)  (hCG : SlG (hw w) ca (List.flatMap cc t.cs)) (hBG : SlG (hw w) ba (List.flatMap vl t.bd)) : Calls Tryd.prog 21 #[.agg #[.string (bs t.nm), .slice ca nc cca, .int .i64 t.key, .int .i64 t.pt, .slice ba nb cba], .slice al n cl] w (PostN w fun v G => RrowV t L v G) := by
 have hS := St.start w
 subst hnc hnb
 subst hn
 obtain ⟨⟨_, hq1, hq2, hq3, hq4, _⟩, _⟩ := hRt
 refine c_enter Tryd.func21 rfl rfl rfl ?_
 refine wp_seq_k (fun K1 hK1 => ?_)
 refine wp_region_lit ?_
 refine l_e rfl (fun K hK => ?_)
 refine e_boxA hS rfl (fun b2 w2 (hS2 : St _ _ [.blk b2 (.cells #[.string (bs t.nm), .slice ca t.cs.length cca, .int .i64 t.key, .int .i64 t.pt, .slice ba t.bd.length cba] 29)] _) => ?_)
 clear hS
 refine hK _ _ ?_; clear hK K
 refine l_q rfl rfl (q_assignS rfl) ?_
 refine l_e rfl (fun K hK => ?_)
 refine e_alloc (zv := .agg #[.int .i64 0, .int .i64 0]) hS2 (by kernel_rfl) (fun b3 w3 (hS3 : St _ _ [.blk b3 (.cells #[.int .i64 (0 : Int), .int .i64 (0 : Int)] 51), _] _) => ?_)
 clear hS2
 refine hK _ _ ?_; clear hK K
 refine l_nil ?_
 refine hK1 _ _ ?_
 refine wp_seq_k (fun K4 hK4 => ?_)
 refine wp_seq_k (fun K5 hK5 => ?_)
 refine wp_region_lit ?_
 refine l_q rfl rfl (q_moveS rfl) ?_
 refine l_q rfl rfl (q_lenSl (e := 32) rfl (by kernel_rfl)) ?_
 refine l_q rfl rfl (q_fieldAddr (ft := 26) (o := 1) rfl (by kernel_rfl)) ?_
 refine l_q rfl rfl (q_load1 rfl (by kernel_rfl) (hS3.cell (i := 1) rfl rfl)) ?_
 refine l_q rfl rfl (q_lenSl (e := 25) rfl (by kernel_rfl)) ?_
 refine l_q rfl rfl (q_neq rfl rfl) ?_
 refine l_nil ?_
 refine hK5 _ _ ?_
 refine c_cond rfl (fun hc6 => ?_) (fun hc6 => ?_)
 ·
  have hc6b := hc6
  try simp only [decide_eq_true_eq, decide_eq_false_iff_not, Bool.not_eq_true', Bool.not_eq_false', Bool.and_eq_true, Bool.or_eq_true, Int.not_lt, Int.not_le, ne_eq, Decidable.not_not] at hc6
  refine wp_seq_k (fun K7 hK7 => ?_)
  refine wp_region_lit ?_
  refine l_q rfl rfl (q_build (ps := [(0, 1), (1, 1)]) (zv := .agg #[.int .i64 0, .int .i64 0]) (by kernel_rfl) (by kernel_rfl) rfl (by repeat' (first | exact trivial | refine ⟨fun _ => by first | rfl | assumption | exact one_if (by assumption), ?_⟩ | refine ⟨fun ⟨_, h⟩ => by simp at h, ?_⟩)) rfl) ?_
  refine l_q rfl rfl (q_assignS rfl) ?_
  refine l_e rfl (fun K hK => ?_)
  refine e_storeA hS3 rfl rfl (by kernel_rfl) (by repeat' (first | exact trivial | refine ⟨by first | rfl | assumption | exact one_if (by assumption), ?_⟩)) (i := 0) rfl rfl (fun w8 (hS8 : St _ _ [.blk b3 (.cells #[.int .i64 (51 : Int), .int .i64 (-1 : Int)] 51), _] _) => ?_)
  clear hS3
  refine hK _ _ ?_; clear hK K
  refine l_nil ?_
  refine hK7 _ _ ?_
  refine wp_ret ?_
  refine c_retTC (m := 2) rfl (by kernel_rfl) (by kernel_rfl) rfl (hS8.blk (i := 0) rfl) rfl rfl ?_
  have hS9 : St _ _ [] _ := hS8.only 0; clear hS8
  exact ⟨_, _, rfl, RrowV.of (RwA.r1 (by assumption)) (by decide), hS9⟩
 ·
  have hc6b := hc6
  try simp only [decide_eq_true_eq, decide_eq_false_iff_not, Bool.not_eq_true', Bool.not_eq_false', Bool.and_eq_true, Bool.or_eq_true, Int.not_lt, Int.not_le, ne_eq, Decidable.not_not] at hc6
  refine wp_skip ?_
  refine hK4 _ _ ?_
  refine wp_seq_k (fun K10 hK10 => ?_)
  refine wp_seq_k (fun K11 hK11 => ?_)
  refine wp_region_lit ?_
  refine l_q rfl rfl (q_assignI rfl) ?_
  refine l_nil ?_
  refine hK11 _ _ ?_
  refine wp_block ?_
  have hS12 := hS3.fr1; clear hS3
  refine c_loop (τ := Nat) [(4, 4), (6, 7), (16, 52)] (fun x => (fun (i : Nat) => [(6, .int .i64 (i : Int))]) x) (fun x w' => (fun (i : Nat) => St w (fun _ => False) [.blk b2 (.cells #[.string (bs t.nm), .slice ca t.cs.length cca, .int .i64 t.key, .int .i64 t.pt, .slice ba t.bd.length cba] 29), .blk b3 (.cells #[.int .i64 (0 : Int), .int .i64 (0 : Int)] 51)] w' ∧ i ≤ L.length ∧ TyTo t L i) x) (fun x => (fun (i : Nat) => L.length - i) x) (0) ?_ (by repeat' (first | exact trivial | refine ⟨by first | rfl | exact int_succ _ | assumption, ?_⟩)) (fun i j13 w13 hJ13 K13 hK13 => ?_)
  ·
   exact ⟨hS12, Nat.zero_le _, TyTo.zero _ _⟩
  ·
   obtain ⟨hS13, hi, hk⟩ := hJ13
   try dsimp only at hS13 hi hk ⊢
   refine wp_seq_k (fun K14 hK14 => ?_)
   refine wp_seq_k (fun K15 hK15 => ?_)
   refine wp_region_lit ?_
   refine l_q rfl rfl (q_moveI rfl) ?_
   refine l_q rfl rfl (q_moveS rfl) ?_
   refine l_q rfl rfl (q_lenSl (e := 32) rfl (by kernel_rfl)) ?_
   refine l_q rfl rfl (q_lss rfl rfl) ?_
   refine l_nil ?_
   refine hK15 _ _ ?_
   refine c_cond rfl (fun hc16 => ?_) (fun hc16 => ?_)
   ·
    have hc16b := hc16
    try simp only [decide_eq_true_eq, decide_eq_false_iff_not, Bool.not_eq_true', Bool.not_eq_false', Bool.and_eq_true, Bool.or_eq_true, Int.not_lt, Int.not_le, ne_eq, Decidable.not_not] at hc16
    refine wp_skip ?_
    refine hK14 _ _ ?_
    refine wp_seq_k (fun K17 hK17 => ?_)
    refine wp_block ?_
    refine wp_seq_k (fun K18 hK18 => ?_)
    obtain ⟨x19, hx19⟩ : ∃ x, (t.cs)[i]? = some x := ⟨_, List.getElem?_eq_getElem (by first | omega | (simp only [lls] <;> omega) | (simp <;> omega))⟩
    have hcb_x19 := (htc x19 (List.mem_of_getElem? hx19)).2
    refine wp_region_lit ?_
    refine l_q rfl rfl (q_moveS rfl) ?_
    refine l_q rfl rfl (q_moveI rfl) ?_
    refine l_q rfl rfl (q_ixG (e := 32) (m := 3) (j := i) rfl rfl (by kernel_rfl) (by kernel_rfl) (by first | rfl | omega) (by omega) hG (by rw [rows_len (c := vl) (m := 3) (fun _ => rfl)]; first | omega | (simp only [lls] <;> omega))) ?_
    obtain ⟨x20, hx20⟩ : ∃ x, (L)[i]? = some x := ⟨_, List.getElem?_eq_getElem (by first | omega | (simp only [lls] <;> omega) | (simp <;> omega))⟩
    have hvb_x20 := (hL x20 (List.mem_of_getElem? hx20)).2
    refine l_q rfl rfl (q_loadGA (m := 3) rfl (by kernel_rfl) (by kernel_rfl) (hG.mono hS13.base) (row_take hx20 (c := vl) (m := 3) (fun _ => rfl)) rfl (by decide)) ?_
    refine l_e rfl (fun K hK => ?_)
    refine e_call (by kernel_rfl) (rright_ok x20 (hL x20 (List.mem_of_getElem? hx20)).1 _) rfl (after_R hS13 (fun v21 w21 hv21 hS21 => ?_))
    clear hS13
    obtain rfl := hv21
    refine hK _ _ ?_; clear hK K
    refine l_q rfl rfl (q_assignB rfl) ?_
    refine l_nil ?_
    refine hK18 _ _ ?_
    refine wp_seq_k (fun K22 hK22 => ?_)
    refine r_any (by kernel_rfl) hS21 (fun w23 hS23 => ?_)
    clear hS21
    refine o_pure (i := 0) (fun _ _ => trivial) rfl rfl (by kernel_rfl) (goes0 rfl) (QOk.then (QOk.inBlock (QOk.then (QOk.then (QOk.inBlock (QOk.then QOk.body)))))) (fun w => q_moveB rfl) ?_
    refine o_pure (i := 1) (fun _ _ => trivial) rfl rfl (by kernel_rfl) (goes0 rfl) (QOk.then (QOk.inBlock (QOk.then (QOk.then (QOk.inBlock (QOk.then QOk.body)))))) (fun w => q_not rfl) ?_
    refine o_pure (i := 2) (fun _ _ => trivial) rfl rfl (by kernel_rfl) (goes0 rfl) (QOk.then (QOk.inBlock (QOk.then (QOk.then (QOk.inBlock (QOk.then QOk.body)))))) (fun w => q_moveB rfl) ?_
    refine g_splitO (t := 29) rfl (fun hg24 => ?_) (fun hg24 => ?_)
    ·
     have hg24b := hg24
     try simp only [decide_eq_true_eq, decide_eq_false_iff_not, Bool.not_eq_true', Bool.not_eq_false', Bool.and_eq_true, Bool.or_eq_true, Int.not_lt, Int.not_le, ne_eq, Decidable.not_not] at hg24
     refine o_off (i := 3) (fun _ _ => trivial) rfl rfl (by kernel_rfl) rfl rfl hg24b (QOk.then (QOk.inBlock (QOk.then (QOk.then (QOk.inBlock (QOk.then QOk.body)))))) ?_
     refine o_off (i := 4) (fun _ _ => trivial) rfl rfl (by kernel_rfl) rfl rfl hg24b (QOk.then (QOk.inBlock (QOk.then (QOk.then (QOk.inBlock (QOk.then QOk.body)))))) ?_
     refine o_off (i := 5) (fun _ _ => trivial) rfl rfl (by kernel_rfl) rfl rfl hg24b (QOk.then (QOk.inBlock (QOk.then (QOk.then (QOk.inBlock (QOk.then QOk.body)))))) ?_
     refine o_off (i := 6) (fun _ _ => trivial) rfl rfl (by kernel_rfl) rfl rfl hg24b (QOk.then (QOk.inBlock (QOk.then (QOk.then (QOk.inBlock (QOk.then QOk.body)))))) ?_
     refine o_off (i := 7) (fun _ _ => trivial) rfl rfl (by kernel_rfl) rfl rfl hg24b (QOk.then (QOk.inBlock (QOk.then (QOk.then (QOk.inBlock (QOk.then QOk.body)))))) ?_
     refine o_off (i := 8) (fun _ _ => trivial) rfl rfl (by kernel_rfl) rfl rfl hg24b (QOk.then (QOk.inBlock (QOk.then (QOk.then (QOk.inBlock (QOk.then QOk.body)))))) ?_
     refine o_off (i := 9) (fun _ _ => trivial) rfl rfl (by kernel_rfl) rfl rfl hg24b (QOk.then (QOk.inBlock (QOk.then (QOk.then (QOk.inBlock (QOk.then QOk.body)))))) ?_
     refine o_offN (i := 10) (fun _ _ => trivial) rfl rfl (by kernel_rfl) rfl rfl (QOk.then (QOk.inBlock (QOk.then (QOk.then (QOk.inBlock (QOk.then QOk.body)))))) ?_
     refine o_offN (i := 11) (fun _ _ => trivial) rfl rfl (by kernel_rfl) rfl rfl (QOk.then (QOk.inBlock (QOk.then (QOk.then (QOk.inBlock (QOk.then QOk.body)))))) ?_
     refine o_offN (i := 12) (fun _ _ => trivial) rfl rfl (by kernel_rfl) rfl rfl (QOk.then (QOk.inBlock (QOk.then (QOk.then (QOk.inBlock (QOk.then QOk.body)))))) ?_
     refine o_offN (i := 13) (fun _ _ => trivial) rfl rfl (by kernel_rfl) rfl rfl (QOk.then (QOk.inBlock (QOk.then (QOk.then (QOk.inBlock (QOk.then QOk.body)))))) ?_
     refine o_offN (i := 14) (fun _ _ => trivial) rfl rfl (by kernel_rfl) rfl rfl (QOk.then (QOk.inBlock (QOk.then (QOk.then (QOk.inBlock (QOk.then QOk.body)))))) ?_
     refine o_offN (i := 15) (fun _ _ => trivial) rfl rfl (by kernel_rfl) rfl rfl (QOk.then (QOk.inBlock (QOk.then (QOk.then (QOk.inBlock (QOk.then QOk.body)))))) ?_
     refine o_offN (i := 16) (fun _ _ => trivial) rfl rfl (by kernel_rfl) rfl rfl (QOk.then (QOk.inBlock (QOk.then (QOk.then (QOk.inBlock (QOk.then QOk.body)))))) ?_
     refine o_offN (i := 17) (fun _ _ => trivial) rfl rfl (by kernel_rfl) rfl rfl (QOk.then (QOk.inBlock (QOk.then (QOk.then (QOk.inBlock (QOk.then QOk.body)))))) ?_
     refine o_offN (i := 18) (fun _ _ => trivial) rfl rfl (by kernel_rfl) rfl rfl (QOk.then (QOk.inBlock (QOk.then (QOk.then (QOk.inBlock (QOk.then QOk.body)))))) ?_
     refine o_offN (i := 19) (fun _ _ => trivial) rfl rfl (by kernel_rfl) rfl rfl (QOk.then (QOk.inBlock (QOk.then (QOk.then (QOk.inBlock (QOk.then QOk.body)))))) ?_
     refine o_offN (i := 20) (fun _ _ => trivial) rfl rfl (by kernel_rfl) rfl rfl (QOk.then (QOk.inBlock (QOk.then (QOk.then (QOk.inBlock (QOk.then QOk.body)))))) ?_
     refine o_offN (i := 21) (fun _ _ => trivial) rfl rfl (by kernel_rfl) rfl rfl (QOk.then (QOk.inBlock (QOk.then (QOk.then (QOk.inBlock (QOk.then QOk.body)))))) ?_
     refine o_off (i := 22) (fun _ _ => trivial) rfl rfl (by kernel_rfl) rfl rfl hg24b (QOk.then (QOk.inBlock (QOk.then (QOk.then (QOk.inBlock (QOk.then QOk.body)))))) ?_
     refine o_pure (i := 23) (fun _ _ => trivial) rfl rfl (by kernel_rfl) (goes0 rfl) (QOk.then (QOk.inBlock (QOk.then (QOk.then (QOk.inBlock (QOk.then QOk.body)))))) (fun w => q_pickT rfl hg24b rfl) ?_
     refine o_done (by kernel_rfl) ?_
     refine hK22 _ _ ?_
     refine c_condT rfl rfl ?_
     refine wp_seq_k (fun K26 hK26 => ?_)
     refine wp_region_lit ?_
     refine l_q rfl rfl (q_moveI rfl) ?_
     refine l_q rfl rfl (q_build (ps := [(0, 1), (1, 1)]) (zv := .agg #[.int .i64 0, .int .i64 0]) (by kernel_rfl) (by kernel_rfl) rfl (by repeat' (first | exact trivial | refine ⟨fun _ => by first | rfl | assumption | exact one_if (by assumption), ?_⟩ | refine ⟨fun ⟨_, h⟩ => by simp at h, ?_⟩)) rfl) ?_
     refine l_q rfl rfl (q_assignS rfl) ?_
     refine l_e rfl (fun K hK => ?_)
     refine e_storeA hS23 rfl rfl (by kernel_rfl) (by repeat' (first | exact trivial | refine ⟨by first | rfl | assumption | exact one_if (by assumption), ?_⟩)) (i := 1) rfl rfl (fun w27 (hS27 : St _ _ [_, .blk b3 (.cells #[.int .i64 (22 : Int), .int .i64 (i : Int)] 51)] _) => ?_)
     clear hS23
     refine hK _ _ ?_; clear hK K
     refine l_nil ?_
     refine hK26 _ _ ?_
     refine wp_ret ?_
     refine c_retTC (m := 2) rfl (by kernel_rfl) (by kernel_rfl) rfl (hS27.blk (i := 1) rfl) rfl rfl ?_
     have hS28 : St _ _ [] _ := hS27.only 0; clear hS27
     exact ⟨_, _, rfl, RrowV.of (RwA.r2 (by assumption) hx20 hx19 hk (fun ⟨g1, g2⟩ => by first | exact Bool.false_ne_true (Eq.trans (Eq.symm (by assumption)) g1) | omega)) (by decide), hS28⟩
    ·
     have hg24b := hg24
     try simp only [decide_eq_true_eq, decide_eq_false_iff_not, Bool.not_eq_true', Bool.not_eq_false', Bool.and_eq_true, Bool.or_eq_true, Int.not_lt, Int.not_le, ne_eq, Decidable.not_not] at hg24
     refine o_pure (i := 3) (fun _ _ => trivial) rfl rfl (by kernel_rfl) (goes1 rfl rfl hg24b) (QOk.then (QOk.inBlock (QOk.then (QOk.then (QOk.inBlock (QOk.then QOk.body)))))) (fun w => q_moveS rfl) ?_
     refine o_pure (i := 4) (fun _ _ => trivial) rfl rfl (by kernel_rfl) (goes1 rfl rfl hg24b) (QOk.then (QOk.inBlock (QOk.then (QOk.then (QOk.inBlock (QOk.then QOk.body)))))) (fun w => q_moveI rfl) ?_
     refine o_pure (i := 5) (fun _ _ => trivial) rfl rfl (by kernel_rfl) (goes1 rfl rfl hg24b) (QOk.then (QOk.inBlock (QOk.then (QOk.then (QOk.inBlock (QOk.then QOk.body)))))) (fun w => q_ixG (e := 32) (m := 3) (j := i) rfl rfl (by kernel_rfl) (by kernel_rfl) (by first | rfl | omega) (by omega) hG (by rw [rows_len (c := vl) (m := 3) (fun _ => rfl)]; first | omega | (simp only [lls] <;> omega))) ?_
     refine o_pure (i := 6) (fun _ _ => trivial) rfl rfl (by kernel_rfl) (goes1 rfl rfl hg24b) (QOk.then (QOk.inBlock (QOk.then (QOk.then (QOk.inBlock (QOk.then QOk.body)))))) (fun w => q_fieldG (ft := 23) (o := 0) rfl (by kernel_rfl)) ?_
     refine o_held (i := 7) [8, 9, 10, 11, 12, 13, 14, 15, 16, 17, 18, 19, 20, 21, 22, 23] (fun _ _ => trivial) rfl rfl (by kernel_rfl) (goes1 rfl rfl hg24b) (QOk.then (QOk.inBlock (QOk.then (QOk.then (QOk.inBlock (QOk.then QOk.body)))))) (q_load1 rfl (by kernel_rfl) (SlG.cell (hG.mono hS23.base) (Gle.refl _) (row_at hx20 (c := vl) (m := 3) (fun _ => rfl) (j := 0) rfl))) ?_
     refine o_pure (i := 8) (fun j w => ⟨(fun _ _ => trivial) j w, fun _ h => h⟩) rfl rfl (by kernel_rfl) (goes1 rfl rfl hg24b) (QOk.then (QOk.inBlock (QOk.then (QOk.then (QOk.inBlock (QOk.then QOk.body)))))) (fun w => q_neq rfl rfl) ?_
     refine o_pure (i := 9) (fun j w => ⟨(fun _ _ => trivial) j w, fun _ h => h⟩) rfl rfl (by kernel_rfl) (goes1 rfl rfl hg24b) (QOk.then (QOk.inBlock (QOk.then (QOk.then (QOk.inBlock (QOk.then QOk.body)))))) (fun w => q_moveB rfl) ?_
     refine g_splitO (t := 36) rfl (fun hg29 => ?_) (fun hg29 => ?_)
     ·
      have hg29b := hg29
      try simp only [decide_eq_true_eq, decide_eq_false_iff_not, Bool.not_eq_true', Bool.not_eq_false', Bool.and_eq_true, Bool.or_eq_true, Int.not_lt, Int.not_le, ne_eq, Decidable.not_not] at hg29
      refine o_pure (i := 10) (fun j w => ⟨(fun _ _ => trivial) j w, fun _ h => h⟩) rfl rfl (by kernel_rfl) (goes1 rfl rfl hg29b) (QOk.then (QOk.inBlock (QOk.then (QOk.then (QOk.inBlock (QOk.then QOk.body)))))) (fun w => q_moveS rfl) ?_
      refine o_pure (i := 11) (fun j w => ⟨(fun _ _ => trivial) j w, fun _ h => h⟩) rfl rfl (by kernel_rfl) (goes1 rfl rfl hg29b) (QOk.then (QOk.inBlock (QOk.then (QOk.then (QOk.inBlock (QOk.then QOk.body)))))) (fun w => q_moveI rfl) ?_
      refine o_pure (i := 12) (fun j w => ⟨(fun _ _ => trivial) j w, fun _ h => h⟩) rfl rfl (by kernel_rfl) (goes1 rfl rfl hg29b) (QOk.then (QOk.inBlock (QOk.then (QOk.then (QOk.inBlock (QOk.then QOk.body)))))) (fun w => q_ixG (e := 32) (m := 3) (j := i) rfl rfl (by kernel_rfl) (by kernel_rfl) (by first | rfl | omega) (by omega) hG (by rw [rows_len (c := vl) (m := 3) (fun _ => rfl)]; first | omega | (simp only [lls] <;> omega))) ?_
      refine o_pure (i := 13) (fun j w => ⟨(fun _ _ => trivial) j w, fun _ h => h⟩) rfl rfl (by kernel_rfl) (goes1 rfl rfl hg29b) (QOk.then (QOk.inBlock (QOk.then (QOk.then (QOk.inBlock (QOk.then QOk.body)))))) (fun w => q_fieldG (ft := 23) (o := 0) rfl (by kernel_rfl)) ?_
      refine o_held (i := 14) [21, 22, 23] (fun j w => ⟨(fun _ _ => trivial) j w, fun _ h => h⟩) rfl rfl (by kernel_rfl) (goes1 rfl rfl hg29b) (QOk.then (QOk.inBlock (QOk.then (QOk.then (QOk.inBlock (QOk.then QOk.body)))))) (q_load1 rfl (by kernel_rfl) (SlG.cell (hG.mono hS23.base) (Gle.refl _) (row_at hx20 (c := vl) (m := 3) (fun _ => rfl) (j := 0) rfl))) ?_
      refine o_pure (i := 15) (fun j w => ⟨(fun j w => ⟨(fun _ _ => trivial) j w, fun _ h => h⟩) j w, fun _ h => h⟩) rfl rfl (by kernel_rfl) (goes1 rfl rfl hg29b) (QOk.then (QOk.inBlock (QOk.then (QOk.then (QOk.inBlock (QOk.then QOk.body)))))) (fun w => q_fieldAddr (ft := 26) (o := 1) rfl (by kernel_rfl)) ?_
      refine o_held (i := 16) [18, 19, 20, 21, 22, 23] (fun j w => ⟨(fun j w => ⟨(fun _ _ => trivial) j w, fun _ h => h⟩) j w, fun _ h => h⟩) rfl rfl (by kernel_rfl) (goes1 rfl rfl hg29b) (QOk.then (QOk.inBlock (QOk.then (QOk.then (QOk.inBlock (QOk.then QOk.body)))))) (q_load1 rfl (by kernel_rfl) (hS23.cell (i := 0) rfl rfl)) ?_
      refine o_pure (i := 17) (fun j w => ⟨(fun j w => ⟨(fun j w => ⟨(fun _ _ => trivial) j w, fun _ h => h⟩) j w, fun _ h => h⟩) j w, fun _ h => h⟩) rfl rfl (by kernel_rfl) (goes1 rfl rfl hg29b) (QOk.then (QOk.inBlock (QOk.then (QOk.then (QOk.inBlock (QOk.then QOk.body)))))) (fun w => q_moveI rfl) ?_
      refine o_pure (i := 18) (fun j w => ⟨(fun j w => ⟨(fun j w => ⟨(fun _ _ => trivial) j w, fun _ h => h⟩) j w, fun _ h => h⟩) j w, fun _ h => h⟩) rfl rfl (by kernel_rfl) (goes1 rfl rfl hg29b) (QOk.then (QOk.inBlock (QOk.then (QOk.then (QOk.inBlock (QOk.then QOk.body)))))) (fun w => q_ixG (e := 25) (m := 3) (j := i) rfl rfl (by kernel_rfl) (by kernel_rfl) (by first | rfl | omega) (by omega) hCG (by rw [rows_len (c := cc) (m := 3) (fun _ => rfl)]; first | omega | (simp only [lls] <;> omega))) ?_
      refine o_pure (i := 19) (fun j w => ⟨(fun j w => ⟨(fun j w => ⟨(fun _ _ => trivial) j w, fun _ h => h⟩) j w, fun _ h => h⟩) j w, fun _ h => h⟩) rfl rfl (by kernel_rfl) (goes1 rfl rfl hg29b) (QOk.then (QOk.inBlock (QOk.then (QOk.then (QOk.inBlock (QOk.then QOk.body)))))) (fun w => q_fieldG (ft := 23) (o := 1) rfl (by kernel_rfl)) ?_
      refine o_held (i := 20) [21, 22, 23] (fun j w => ⟨(fun j w => ⟨(fun j w => ⟨(fun _ _ => trivial) j w, fun _ h => h⟩) j w, fun _ h => h⟩) j w, fun _ h => h⟩) rfl rfl (by kernel_rfl) (goes1 rfl rfl hg29b) (QOk.then (QOk.inBlock (QOk.then (QOk.then (QOk.inBlock (QOk.then QOk.body)))))) (q_load1 rfl (by kernel_rfl) (SlG.cell (hCG.mono hS23.base) (Gle.refl _) (row_at hx19 (c := cc) (m := 3) (fun _ => rfl) (j := 1) rfl))) ?_
      refine o_pure (i := 21) (fun j w => ⟨(fun j w => ⟨(fun j w => ⟨(fun j w => ⟨(fun _ _ => trivial) j w, fun _ h => h⟩) j w, fun _ h => h⟩) j w, fun _ h => h⟩) j w, fun _ h => h⟩) rfl rfl (by kernel_rfl) (goes1 rfl rfl hg29b) (QOk.then (QOk.inBlock (QOk.then (QOk.then (QOk.inBlock (QOk.then QOk.body)))))) (fun w => q_neq rfl rfl) ?_
      refine o_pure (i := 22) (fun j w => ⟨(fun j w => ⟨(fun j w => ⟨(fun j w => ⟨(fun _ _ => trivial) j w, fun _ h => h⟩) j w, fun _ h => h⟩) j w, fun _ h => h⟩) j w, fun _ h => h⟩) rfl rfl (by kernel_rfl) (goes1 rfl rfl hg24b) (QOk.then (QOk.inBlock (QOk.then (QOk.then (QOk.inBlock (QOk.then QOk.body)))))) (fun w => q_pickT rfl hg29b rfl) ?_
      refine o_pure (i := 23) (fun j w => ⟨(fun j w => ⟨(fun j w => ⟨(fun j w => ⟨(fun _ _ => trivial) j w, fun _ h => h⟩) j w, fun _ h => h⟩) j w, fun _ h => h⟩) j w, fun _ h => h⟩) rfl rfl (by kernel_rfl) (goes0 rfl) (QOk.then (QOk.inBlock (QOk.then (QOk.then (QOk.inBlock (QOk.then QOk.body)))))) (fun w => q_pickF rfl hg24b rfl) ?_
      refine o_done (by kernel_rfl) ?_
      refine hK22 _ _ ?_
      refine c_cond rfl (fun hc30 => ?_) (fun hc30 => ?_)
      ·
       have hc30b := hc30
       try simp only [decide_eq_true_eq, decide_eq_false_iff_not, Bool.not_eq_true', Bool.not_eq_false', Bool.and_eq_true, Bool.or_eq_true, Int.not_lt, Int.not_le, ne_eq, Decidable.not_not] at hc30
       refine wp_seq_k (fun K31 hK31 => ?_)
       refine wp_region_lit ?_
       refine l_q rfl rfl (q_moveI rfl) ?_
       refine l_q rfl rfl (q_build (ps := [(0, 1), (1, 1)]) (zv := .agg #[.int .i64 0, .int .i64 0]) (by kernel_rfl) (by kernel_rfl) rfl (by repeat' (first | exact trivial | refine ⟨fun _ => by first | rfl | assumption | exact one_if (by assumption), ?_⟩ | refine ⟨fun ⟨_, h⟩ => by simp at h, ?_⟩)) rfl) ?_
       refine l_q rfl rfl (q_assignS rfl) ?_
       refine l_e rfl (fun K hK => ?_)
       refine e_storeA hS23 rfl rfl (by kernel_rfl) (by repeat' (first | exact trivial | refine ⟨by first | rfl | assumption | exact one_if (by assumption), ?_⟩)) (i := 1) rfl rfl (fun w32 (hS32 : St _ _ [_, _] _) => ?_)
       clear hS23
       refine hK _ _ ?_; clear hK K
       refine l_nil ?_
       refine hK31 _ _ ?_
       refine wp_ret ?_
       refine c_retTC (m := 2) rfl (by kernel_rfl) (by kernel_rfl) rfl (hS32.blk (i := 1) rfl) rfl rfl ?_
       have hS33 : St _ _ [] _ := hS32.only 0; clear hS32
       exact ⟨_, _, rfl, RrowV.of (RwA.r2 (by assumption) hx20 hx19 hk (fun ⟨g1, g2⟩ => by first | exact Bool.false_ne_true (Eq.trans (Eq.symm (by assumption)) g1) | omega)) (by decide), hS33⟩
      ·
       have hc30b := hc30
       try simp only [decide_eq_true_eq, decide_eq_false_iff_not, Bool.not_eq_true', Bool.not_eq_false', Bool.and_eq_true, Bool.or_eq_true, Int.not_lt, Int.not_le, ne_eq, Decidable.not_not] at hc30
       refine wp_skip ?_
       refine hK17 _ _ ?_
       refine wp_region_lit ?_
       refine l_q rfl rfl (q_moveI rfl) ?_
       refine l_q rfl rfl (q_addx rfl rfl (by first | decide | omega) (by first | decide | omega)) ?_
       refine l_q rfl rfl (q_assignI rfl) ?_
       refine l_nil ?_
       refine hK13 _ _ (came ((i + 1)) (by repeat' (first | exact Agree.refl _ _ | refine Agree.up ?_ rfl | refine Agree.hav2 ?_ rfl | refine Agree.ups2 ?_ rfl)) (by repeat' (first | exact trivial | refine ⟨by first | rfl | exact int_succ _ | assumption, ?_⟩)) ?_)
       exact ⟨⟨hS23, (by show i + 1 ≤ L.length; omega), hk.next hx20 hx19 ⟨by assumption, by omega⟩⟩, by (show L.length - (i + 1) < L.length - i); omega⟩
     ·
      have hg29b := hg29
      try simp only [decide_eq_true_eq, decide_eq_false_iff_not, Bool.not_eq_true', Bool.not_eq_false', Bool.and_eq_true, Bool.or_eq_true, Int.not_lt, Int.not_le, ne_eq, Decidable.not_not] at hg29
      refine o_off (i := 10) (fun j w => ⟨(fun _ _ => trivial) j w, fun _ h => h⟩) rfl rfl (by kernel_rfl) rfl rfl hg29b (QOk.then (QOk.inBlock (QOk.then (QOk.then (QOk.inBlock (QOk.then QOk.body)))))) ?_
      refine o_off (i := 11) (fun j w => ⟨(fun _ _ => trivial) j w, fun _ h => h⟩) rfl rfl (by kernel_rfl) rfl rfl hg29b (QOk.then (QOk.inBlock (QOk.then (QOk.then (QOk.inBlock (QOk.then QOk.body)))))) ?_
      refine o_off (i := 12) (fun j w => ⟨(fun _ _ => trivial) j w, fun _ h => h⟩) rfl rfl (by kernel_rfl) rfl rfl hg29b (QOk.then (QOk.inBlock (QOk.then (QOk.then (QOk.inBlock (QOk.then QOk.body)))))) ?_
      refine o_off (i := 13) (fun j w => ⟨(fun _ _ => trivial) j w, fun _ h => h⟩) rfl rfl (by kernel_rfl) rfl rfl hg29b (QOk.then (QOk.inBlock (QOk.then (QOk.then (QOk.inBlock (QOk.then QOk.body)))))) ?_
      refine o_off (i := 14) (fun j w => ⟨(fun _ _ => trivial) j w, fun _ h => h⟩) rfl rfl (by kernel_rfl) rfl rfl hg29b (QOk.then (QOk.inBlock (QOk.then (QOk.then (QOk.inBlock (QOk.then QOk.body)))))) ?_
      refine o_off (i := 15) (fun j w => ⟨(fun _ _ => trivial) j w, fun _ h => h⟩) rfl rfl (by kernel_rfl) rfl rfl hg29b (QOk.then (QOk.inBlock (QOk.then (QOk.then (QOk.inBlock (QOk.then QOk.body)))))) ?_
      refine o_off (i := 16) (fun j w => ⟨(fun _ _ => trivial) j w, fun _ h => h⟩) rfl rfl (by kernel_rfl) rfl rfl hg29b (QOk.then (QOk.inBlock (QOk.then (QOk.then (QOk.inBlock (QOk.then QOk.body)))))) ?_
      refine o_off (i := 17) (fun j w => ⟨(fun _ _ => trivial) j w, fun _ h => h⟩) rfl rfl (by kernel_rfl) rfl rfl hg29b (QOk.then (QOk.inBlock (QOk.then (QOk.then (QOk.inBlock (QOk.then QOk.body)))))) ?_
      refine o_off (i := 18) (fun j w => ⟨(fun _ _ => trivial) j w, fun _ h => h⟩) rfl rfl (by kernel_rfl) rfl rfl hg29b (QOk.then (QOk.inBlock (QOk.then (QOk.then (QOk.inBlock (QOk.then QOk.body)))))) ?_
      refine o_off (i := 19) (fun j w => ⟨(fun _ _ => trivial) j w, fun _ h => h⟩) rfl rfl (by kernel_rfl) rfl rfl hg29b (QOk.then (QOk.inBlock (QOk.then (QOk.then (QOk.inBlock (QOk.then QOk.body)))))) ?_
      refine o_off (i := 20) (fun j w => ⟨(fun _ _ => trivial) j w, fun _ h => h⟩) rfl rfl (by kernel_rfl) rfl rfl hg29b (QOk.then (QOk.inBlock (QOk.then (QOk.then (QOk.inBlock (QOk.then QOk.body)))))) ?_
      refine o_off (i := 21) (fun j w => ⟨(fun _ _ => trivial) j w, fun _ h => h⟩) rfl rfl (by kernel_rfl) rfl rfl hg29b (QOk.then (QOk.inBlock (QOk.then (QOk.then (QOk.inBlock (QOk.then QOk.body)))))) ?_
      refine o_pure (i := 22) (fun j w => ⟨(fun _ _ => trivial) j w, fun _ h => h⟩) rfl rfl (by kernel_rfl) (goes1 rfl rfl hg24b) (QOk.then (QOk.inBlock (QOk.then (QOk.then (QOk.inBlock (QOk.then QOk.body)))))) (fun w => q_pickF rfl hg29b rfl) ?_
      refine o_pure (i := 23) (fun j w => ⟨(fun _ _ => trivial) j w, fun _ h => h⟩) rfl rfl (by kernel_rfl) (goes0 rfl) (QOk.then (QOk.inBlock (QOk.then (QOk.then (QOk.inBlock (QOk.then QOk.body)))))) (fun w => q_pickF rfl hg24b rfl) ?_
      refine o_done (by kernel_rfl) ?_
      refine hK22 _ _ ?_
      refine c_condF rfl rfl ?_
      refine wp_skip ?_
      refine hK17 _ _ ?_
      refine wp_region_lit ?_
      refine l_q rfl rfl (q_moveI rfl) ?_
      refine l_q rfl rfl (q_addx rfl rfl (by first | decide | omega) (by first | decide | omega)) ?_
      refine l_q rfl rfl (q_assignI rfl) ?_
      refine l_nil ?_
      refine hK13 _ _ (came ((i + 1)) (by repeat' (first | exact Agree.refl _ _ | refine Agree.up ?_ rfl | refine Agree.hav2 ?_ rfl | refine Agree.ups2 ?_ rfl)) (by repeat' (first | exact trivial | refine ⟨by first | rfl | exact int_succ _ | assumption, ?_⟩)) ?_)
      exact ⟨⟨hS23, (by show i + 1 ≤ L.length; omega), hk.next hx20 hx19 ⟨by assumption, by omega⟩⟩, by (show L.length - (i + 1) < L.length - i); omega⟩
   ·
    have hc16b := hc16
    try simp only [decide_eq_true_eq, decide_eq_false_iff_not, Bool.not_eq_true', Bool.not_eq_false', Bool.and_eq_true, Bool.or_eq_true, Int.not_lt, Int.not_le, ne_eq, Decidable.not_not] at hc16
    refine wp_exit ?_
    refine hK10 _ _ ?_
    refine wp_seq_k (fun K35 hK35 => ?_)
    refine wp_seq_k (fun K36 hK36 => ?_)
    refine wp_region_lit ?_
    refine l_q rfl rfl (q_assignI rfl) ?_
    refine l_nil ?_
    refine hK36 _ _ ?_
    refine wp_block ?_
    have hii : i = L.length := by omega
    rw [hii] at hk
    clear hii
    refine c_loop (τ := Nat) [(4, 4), (8, 8), (53, 74)] (fun x => (fun (i : Nat) => [(8, .int .i64 (i : Int))]) x) (fun x w' => (fun (i : Nat) => St w (fun _ => False) [.blk b2 (.cells #[.string (bs t.nm), .slice ca t.cs.length cca, .int .i64 t.key, .int .i64 t.pt, .slice ba t.bd.length cba] 29), .blk b3 (.cells #[.int .i64 (0 : Int), .int .i64 (0 : Int)] 51)] w' ∧ i ≤ L.length ∧ MuTo t L i) x) (fun x => (fun (i : Nat) => L.length - i) x) (0) ?_ (by repeat' (first | exact trivial | refine ⟨by first | rfl | exact int_succ _ | assumption, ?_⟩)) (fun i j37 w37 hJ37 K37 hK37 => ?_)
    ·
     exact ⟨hS13, Nat.zero_le _, MuTo.zero _ _⟩
    ·
     obtain ⟨hS37, hi, hmu⟩ := hJ37
     try dsimp only at hS37 hi hmu ⊢
     refine wp_seq_k (fun K38 hK38 => ?_)
     refine wp_seq_k (fun K39 hK39 => ?_)
     refine wp_region_lit ?_
     refine l_q rfl rfl (q_moveI rfl) ?_
     refine l_q rfl rfl (q_moveS rfl) ?_
     refine l_q rfl rfl (q_lenSl (e := 32) rfl (by kernel_rfl)) ?_
     refine l_q rfl rfl (q_lss rfl rfl) ?_
     refine l_nil ?_
     refine hK39 _ _ ?_
     refine c_cond rfl (fun hc40 => ?_) (fun hc40 => ?_)
     ·
      have hc40b := hc40
      try simp only [decide_eq_true_eq, decide_eq_false_iff_not, Bool.not_eq_true', Bool.not_eq_false', Bool.and_eq_true, Bool.or_eq_true, Int.not_lt, Int.not_le, ne_eq, Decidable.not_not] at hc40
      refine wp_skip ?_
      refine hK38 _ _ ?_
      refine wp_seq_k (fun K41 hK41 => ?_)
      refine wp_block ?_
      refine wp_seq_k (fun K42 hK42 => ?_)
      obtain ⟨x43, hx43⟩ : ∃ x, (t.cs)[i]? = some x := ⟨_, List.getElem?_eq_getElem (by first | omega | (simp only [lls] <;> omega) | (simp <;> omega))⟩
      have hcb_x43 := (htc x43 (List.mem_of_getElem? hx43)).2
      refine wp_region_lit ?_
      refine l_q rfl rfl (q_moveS rfl) ?_
      refine l_q rfl rfl (q_moveI rfl) ?_
      refine l_q rfl rfl (q_ixG (e := 32) (m := 3) (j := i) rfl rfl (by kernel_rfl) (by kernel_rfl) (by first | rfl | omega) (by omega) hG (by rw [rows_len (c := vl) (m := 3) (fun _ => rfl)]; first | omega | (simp only [lls] <;> omega))) ?_
      refine l_q rfl rfl (q_fieldG (ft := 23) (o := 0) rfl (by kernel_rfl)) ?_
      obtain ⟨x44, hx44⟩ : ∃ x, (L)[i]? = some x := ⟨_, List.getElem?_eq_getElem (by first | omega | (simp only [lls] <;> omega) | (simp <;> omega))⟩
      have hvb_x44 := (hL x44 (List.mem_of_getElem? hx44)).2
      refine l_q rfl rfl (q_load1 rfl (by kernel_rfl) (SlG.cell (hG.mono hS37.base) (Gle.refl _) (row_at hx44 (c := vl) (m := 3) (fun _ => rfl) (j := 0) rfl))) ?_
      refine l_q rfl rfl (q_eql rfl rfl) ?_
      refine l_q rfl rfl (q_moveB rfl) ?_
      refine g_splitL (t := 65) rfl (fun hg45 => ?_) (fun hg45 => ?_)
      ·
       have hg45b := hg45
       try simp only [decide_eq_true_eq, decide_eq_false_iff_not, Bool.not_eq_true', Bool.not_eq_false', Bool.and_eq_true, Bool.or_eq_true, Int.not_lt, Int.not_le, ne_eq, Decidable.not_not] at hg45
       refine l_on rfl rfl hg45b ?_
       refine l_q rfl rfl (q_fieldAddr (ft := 26) (o := 1) rfl (by kernel_rfl)) ?_
       refine l_on rfl rfl hg45b ?_
       refine l_q rfl rfl (q_load1 rfl (by kernel_rfl) (hS37.cell (i := 0) rfl rfl)) ?_
       refine l_on rfl rfl hg45b ?_
       refine l_q rfl rfl (q_moveI rfl) ?_
       refine l_on rfl rfl hg45b ?_
       refine l_q rfl rfl (q_ixG (e := 25) (m := 3) (j := i) rfl rfl (by kernel_rfl) (by kernel_rfl) (by first | rfl | omega) (by omega) hCG (by rw [rows_len (c := cc) (m := 3) (fun _ => rfl)]; first | omega | (simp only [lls] <;> omega))) ?_
       refine l_on rfl rfl hg45b ?_
       refine l_q rfl rfl (q_fieldG (ft := 4) (o := 2) rfl (by kernel_rfl)) ?_
       refine l_on rfl rfl hg45b ?_
       refine l_q rfl rfl (q_load1 rfl (by kernel_rfl) (SlG.cell (hCG.mono hS37.base) (Gle.refl _) (row_at hx43 (c := cc) (m := 3) (fun _ => rfl) (j := 2) rfl))) ?_
       refine l_q rfl rfl (q_pickT rfl hg45b rfl) ?_
       refine l_nil ?_
       refine hK42 _ _ ?_
       refine c_cond rfl (fun hc46 => ?_) (fun hc46 => ?_)
       ·
        have hc46b := hc46
        try simp only [decide_eq_true_eq, decide_eq_false_iff_not, Bool.not_eq_true', Bool.not_eq_false', Bool.and_eq_true, Bool.or_eq_true, Int.not_lt, Int.not_le, ne_eq, Decidable.not_not] at hc46
        refine wp_seq_k (fun K47 hK47 => ?_)
        refine wp_region_lit ?_
        refine l_q rfl rfl (q_moveI rfl) ?_
        refine l_q rfl rfl (q_build (ps := [(0, 1), (1, 1)]) (zv := .agg #[.int .i64 0, .int .i64 0]) (by kernel_rfl) (by kernel_rfl) rfl (by repeat' (first | exact trivial | refine ⟨fun _ => by first | rfl | assumption | exact one_if (by assumption), ?_⟩ | refine ⟨fun ⟨_, h⟩ => by simp at h, ?_⟩)) rfl) ?_
        refine l_q rfl rfl (q_assignS rfl) ?_
        refine l_e rfl (fun K hK => ?_)
        refine e_storeA hS37 rfl rfl (by kernel_rfl) (by repeat' (first | exact trivial | refine ⟨by first | rfl | assumption | exact one_if (by assumption), ?_⟩)) (i := 1) rfl rfl (fun w48 (hS48 : St _ _ [_, .blk b3 (.cells #[.int .i64 (201 : Int), .int .i64 (i : Int)] 51)] _) => ?_)
        clear hS37
        refine hK _ _ ?_; clear hK K
        refine l_nil ?_
        refine hK47 _ _ ?_
        refine wp_ret ?_
        refine c_retTC (m := 2) rfl (by kernel_rfl) (by kernel_rfl) rfl (hS48.blk (i := 1) rfl) rfl rfl ?_
        have hS49 : St _ _ [] _ := hS48.only 0; clear hS48
        exact ⟨_, _, rfl, RrowV.of (RwA.r3 (by assumption) hk hx44 hx43 hmu ⟨by omega, by assumption⟩) (by decide), hS49⟩
       ·
        have hc46b := hc46
        try simp only [decide_eq_true_eq, decide_eq_false_iff_not, Bool.not_eq_true', Bool.not_eq_false', Bool.and_eq_true, Bool.or_eq_true, Int.not_lt, Int.not_le, ne_eq, Decidable.not_not] at hc46
        refine wp_skip ?_
        refine hK41 _ _ ?_
        refine wp_region_lit ?_
        refine l_q rfl rfl (q_moveI rfl) ?_
        refine l_q rfl rfl (q_addx rfl rfl (by first | decide | omega) (by first | decide | omega)) ?_
        refine l_q rfl rfl (q_assignI rfl) ?_
        refine l_nil ?_
        refine hK37 _ _ (came ((i + 1)) (by repeat' (first | exact Agree.refl _ _ | refine Agree.up ?_ rfl | refine Agree.hav2 ?_ rfl | refine Agree.ups2 ?_ rfl)) (by repeat' (first | exact trivial | refine ⟨by first | rfl | exact int_succ _ | assumption, ?_⟩)) ?_)
        exact ⟨⟨hS37, (by show i + 1 ≤ L.length; omega), hmu.next hx44 hx43 (fun ⟨g1, g2⟩ => by first | omega | exact Bool.false_ne_true (Eq.trans (Eq.symm (by assumption)) g2))⟩, by (show L.length - (i + 1) < L.length - i); omega⟩
      ·
       have hg45b := hg45
       try simp only [decide_eq_true_eq, decide_eq_false_iff_not, Bool.not_eq_true', Bool.not_eq_false', Bool.and_eq_true, Bool.or_eq_true, Int.not_lt, Int.not_le, ne_eq, Decidable.not_not] at hg45
       refine l_off rfl rfl rfl hg45b ?_
       refine l_off rfl rfl rfl hg45b ?_
       refine l_off rfl rfl rfl hg45b ?_
       refine l_off rfl rfl rfl hg45b ?_
       refine l_off rfl rfl rfl hg45b ?_
       refine l_off rfl rfl rfl hg45b ?_
       refine l_q rfl rfl (q_pickF rfl hg45b rfl) ?_
       refine l_nil ?_
       refine hK42 _ _ ?_
       refine c_condF rfl rfl ?_
       refine wp_skip ?_
       refine hK41 _ _ ?_
       refine wp_region_lit ?_
       refine l_q rfl rfl (q_moveI rfl) ?_
       refine l_q rfl rfl (q_addx rfl rfl (by first | decide | omega) (by first | decide | omega)) ?_
       refine l_q rfl rfl (q_assignI rfl) ?_
       refine l_nil ?_
       refine hK37 _ _ (came ((i + 1)) (by repeat' (first | exact Agree.refl _ _ | refine Agree.up ?_ rfl | refine Agree.hav2 ?_ rfl | refine Agree.ups2 ?_ rfl)) (by repeat' (first | exact trivial | refine ⟨by first | rfl | exact int_succ _ | assumption, ?_⟩)) ?_)
       exact ⟨⟨hS37, (by show i + 1 ≤ L.length; omega), hmu.next hx44 hx43 (fun ⟨g1, g2⟩ => by first | omega | exact Bool.false_ne_true (Eq.trans (Eq.symm (by assumption)) g2))⟩, by (show L.length - (i + 1) < L.length - i); omega⟩
     ·
      have hc40b := hc40
      try simp only [decide_eq_true_eq, decide_eq_false_iff_not, Bool.not_eq_true', Bool.not_eq_false', Bool.and_eq_true, Bool.or_eq_true, Int.not_lt, Int.not_le, ne_eq, Decidable.not_not] at hc40
      refine wp_exit ?_
      refine hK35 _ _ ?_
      refine wp_seq_k (fun K51 hK51 => ?_)
      refine wp_region_lit ?_
      refine l_e rfl (fun K hK => ?_)
      refine e_buildSlice0 (e := 32) (m := 3) hS37 (by kernel_rfl) (by kernel_rfl) (fun b52 w52 (hS52 : St _ _ [.blk b52 (.cells #[] 32), _, _] _) => ?_)
      clear hS37
      have hS52o : St _ _ [.ow 32 3 (some ⟨b52, 0, none⟩) 0 0 (List.flatMap vl []), _, _] _ := hS52.blkOw' (i := 0) (m := 0) (size := 3) (xs := List.flatMap vl []) rfl rfl rfl (by decide); clear hS52
      refine hK _ _ ?_; clear hK K
      refine l_q rfl rfl (q_moveS rfl) ?_
      refine l_q rfl rfl (q_fieldAddr (ft := 3) (o := 2) rfl (by kernel_rfl)) ?_
      refine l_q rfl rfl (q_load1 rfl (by kernel_rfl) (hS52o.cell (i := 1) rfl rfl)) ?_
      refine l_q rfl rfl (q_sliceX (e := 32) (size := 3) (l := 0) (h := (t.key).toNat) (m := cl) (ad' := al) (len' := (t.key).toNat) (cap' := cl) rfl (by kernel_rfl) (by kernel_rfl) rfl ⟨_, int_nat (by omega) rfl⟩ rfl (by omega) (by first | omega | (simp only [lls] <;> omega)) (by first | omega | (simp only [lls] <;> omega)) rfl subS_zero (Nat.sub_zero _) (Nat.sub_zero _)) ?_
      refine l_e rfl (fun K hK => ?_)
      refine e_app (e := 32) (size := 3) (bytes := 32) (i := 0) (m' := (t.key).toNat) (by kernel_rfl) hS52o rfl rfl rfl (SlG.src (e := 32) (by kernel_rfl) ((rows_takeG (c := vl) (m := 3) (fun _ => rfl) (n := ((t.key).toNat)) hG).mono hS52o.base) ((rows_len (c := vl) (m := 3) (fun _ => rfl) _).trans (by first | rfl | (simp only [lls]; done) | (simp only [lls]; omega) | omega)) (by decide) (rows_one vl_ones)) (by first | omega | (simp only [lls] <;> omega) | (simp; done)) rfl (by first | omega | (simp only [maxLen, lls] <;> omega) | (simp only [maxLen]; omega)) (by first | omega | (simp only [lls] <;> omega)) (fun ad53 cp53 w53 (hS53 : St _ _ [.ow 32 3 ad53 ((t.key).toNat) cp53 (List.flatMap vl (L.take ((t.key).toNat))), _, _] _) => ?_)
      clear hS52o
      refine hK _ _ ?_; clear hK K
      refine l_e rfl (fun K hK => ?_)
      refine e_call (by kernel_rfl) (fine_ok _) rfl (after_R hS53 (fun v54 w54 hv54 hS54 => ?_))
      clear hS53
      obtain rfl := hv54
      refine hK _ _ ?_; clear hK K
      refine l_q rfl rfl (q_assignS rfl) ?_
      refine l_e rfl (fun K hK => ?_)
      refine e_storeA hS54 rfl rfl (by kernel_rfl) (by repeat' (first | exact trivial | refine ⟨by first | rfl | assumption | exact one_if (by assumption), ?_⟩)) (i := 2) rfl rfl (fun w55 (hS55 : St _ _ [_, _, .blk b3 (.cells #[.int .i64 (0 : Int), .int .i64 (-1 : Int)] 51)] _) => ?_)
      clear hS54
      refine hK _ _ ?_; clear hK K
      refine l_nil ?_
      refine hK51 _ _ ?_
      refine wp_ret ?_
      refine c_retTC (m := 2) rfl (by kernel_rfl) (by kernel_rfl) rfl (hS55.blk (i := 2) rfl) rfl rfl ?_
      have hS56 : St _ _ [_] _ := hS55.only 1; clear hS55
      have hii : i = L.length := by omega
      rw [hii] at hmu
      exact ⟨_, _, rfl, .inr ⟨⟨by omega, hk, hmu⟩, ad53, cp53, rfl, rfl⟩, hS56⟩

theorem rrow_yes (t : Tb) (htn : Bytes t.nm) (htc : CsOk t.cs) (htb : VsOk t.bd) (nc nb : Nat) (hnc : t.cs.length = nc) (hnb : t.bd.length = nb) (hmc : nc ≤ 2000000) (hmb : nb ≤ 2000000) (hRt : RtP t) (L : List Vl) (hRw : RwP t L) (hL : VsOk L) (n : Nat) (hn : L.length = n) (hm : n ≤ 2000000) {cl : Nat} (hcl : n ≤ cl) (al : Option Addr) (w : World) (hG : SlG (hw w) al (List.flatMap vl L)) (ca ba : Option Addr) (cca cba : Nat)  (hCG : SlG (hw w) ca (List.flatMap cc t.cs)) (hBG : SlG (hw w) ba (List.flatMap vl t.bd)) : Calls Tryd.prog 21 #[.agg #[.string (bs t.nm), .slice ca nc cca, .int .i64 t.key, .int .i64 t.pt, .slice ba nb cba], .slice al n cl] w (PostN w fun v G => ∃ ad cap, v = .tuple #[.slice ad t.key.toNat cap, .agg #[.int .i64 0, .int .i64 (-1)]] ∧ G = [.ow 32 3 ad t.key.toNat cap (List.flatMap vl (L.take t.key.toNat))]) :=
 (rrow_ok t htn htc htb nc nb hnc hnb hmc hmb hRt L hL n hn hm al cl hcl w hG ca ba cca cba hCG hBG).mono fun _ w' ⟨v, G, he, hP, hS⟩ => ⟨v, G, he, hP.yes hRw, hS⟩
theorem rrow_no (t : Tb) (htn : Bytes t.nm) (htc : CsOk t.cs) (htb : VsOk t.bd) (nc nb : Nat) (hnc : t.cs.length = nc) (hnb : t.bd.length = nb) (hmc : nc ≤ 2000000) (hmb : nb ≤ 2000000) (hRt : RtP t) (L : List Vl) (hRw : ¬RwP t L) (hL : VsOk L) (n : Nat) (hn : L.length = n) (hm : n ≤ 2000000) {cl : Nat} (hcl : n ≤ cl) (al : Option Addr) (w : World) (hG : SlG (hw w) al (List.flatMap vl L)) (ca ba : Option Addr) (cca cba : Nat)  (hCG : SlG (hw w) ca (List.flatMap cc t.cs)) (hBG : SlG (hw w) ba (List.flatMap vl t.bd)) : Calls Tryd.prog 21 #[.agg #[.string (bs t.nm), .slice ca nc cca, .int .i64 t.key, .int .i64 t.pt, .slice ba nb cba], .slice al n cl] w (PostN w fun v G => ∃ c a, (c ≠ 0 ∧ RwA t L c a) ∧ v = .tuple #[.slice none 0 0, .agg #[.int .i64 c, .int .i64 a]] ∧ G = []) :=
 (rrow_ok t htn htc htb nc nb hnc hnb hmc hmb hRt L hL n hn hm al cl hcl w hG ca ba cca cba hCG hBG).mono fun _ w' ⟨v, G, he, hP, hS⟩ => ⟨v, G, he, hP.no hRw, hS⟩
set_option maxHeartbeats 2000000 in
set_option maxRecDepth 100000 in
theorem rpart_ok (t : Tb) (htn : Bytes t.nm) (htc : CsOk t.cs) (htb : VsOk t.bd) (nc nb : Nat) (hnc : t.cs.length = nc) (hnb : t.bd.length = nb) (hmc : nc ≤ 2000000) (hmb : nb ≤ 2000000) (hRt : RtP t) (L : List Vl) (hL : VsOk L) (n : Nat) (hn : L.length = n) (al : Option Addr) {cl : Nat} (w : World) (hlm : n ≤ 9223372036854775807) (hG : SlG (hw w) al (List.flatMap vl L)) (ca ba : Option Addr) (cca cba : Nat)  (hCG : SlG (hw w) ca (List.flatMap cc t.cs)) (hBG : SlG (hw w) ba (List.flatMap vl t.bd)) : Calls Tryd.prog 20 #[.agg #[.string (bs t.nm), .slice ca nc cca, .int .i64 t.key, .int .i64 t.pt, .slice ba nb cba], .slice al n cl] w (PostR w fun v => ∃ n c a, PtA t L n c a ∧ v = .tuple #[.int .i64 n, .agg #[.int .i64 c, .int .i64 a]]) := by
 have hS := St.start w
 subst hnc hnb
 subst hn
 have hRt' := hRt
 obtain ⟨⟨_, hq1, hq2, hq3, hq4, hq5, hq6, _⟩, _⟩ := hRt
 refine c_enter Tryd.func20 rfl rfl rfl ?_
 refine wp_seq_k (fun K1 hK1 => ?_)
 refine wp_region_lit ?_
 refine l_e rfl (fun K hK => ?_)
 refine e_boxA hS rfl (fun b2 w2 (hS2 : St _ _ [.blk b2 (.cells #[.string (bs t.nm), .slice ca t.cs.length cca, .int .i64 t.key, .int .i64 t.pt, .slice ba t.bd.length cba] 29)] _) => ?_)
 clear hS
 refine hK _ _ ?_; clear hK K
 refine l_q rfl rfl (q_assignI rfl) ?_
 refine l_e rfl (fun K hK => ?_)
 refine e_alloc (zv := .agg #[.int .i64 0, .int .i64 0]) hS2 (by kernel_rfl) (fun b3 w3 (hS3 : St _ _ [.blk b3 (.cells #[.int .i64 (0 : Int), .int .i64 (0 : Int)] 51), _] _) => ?_)
 clear hS2
 refine hK _ _ ?_; clear hK K
 refine l_nil ?_
 refine hK1 _ _ ?_
 refine wp_seq_k (fun K4 hK4 => ?_)
 refine wp_seq_k (fun K5 hK5 => ?_)
 refine wp_region_lit ?_
 refine l_q rfl rfl (q_moveS rfl) ?_
 refine l_q rfl rfl (q_lenSl (e := 32) rfl (by kernel_rfl)) ?_
 refine l_q rfl rfl (q_fieldAddr (ft := 3) (o := 2) rfl (by kernel_rfl)) ?_
 refine l_q rfl rfl (q_load1 rfl (by kernel_rfl) (hS3.cell (i := 1) rfl rfl)) ?_
 refine l_q rfl rfl (q_neq rfl rfl) ?_
 refine l_nil ?_
 refine hK5 _ _ ?_
 refine c_cond rfl (fun hc6 => ?_) (fun hc6 => ?_)
 ·
  have hc6b := hc6
  try simp only [decide_eq_true_eq, decide_eq_false_iff_not, Bool.not_eq_true', Bool.not_eq_false', Bool.and_eq_true, Bool.or_eq_true, Int.not_lt, Int.not_le, ne_eq, Decidable.not_not] at hc6
  refine wp_seq_k (fun K7 hK7 => ?_)
  refine wp_region_lit ?_
  refine l_q rfl rfl (q_build (ps := [(0, 1), (1, 1)]) (zv := .agg #[.int .i64 0, .int .i64 0]) (by kernel_rfl) (by kernel_rfl) rfl (by repeat' (first | exact trivial | refine ⟨fun _ => by first | rfl | assumption | exact one_if (by assumption), ?_⟩ | refine ⟨fun ⟨_, h⟩ => by simp at h, ?_⟩)) rfl) ?_
  refine l_q rfl rfl (q_assignI rfl) ?_
  refine l_e rfl (fun K hK => ?_)
  refine e_storeA hS3 rfl rfl (by kernel_rfl) (by repeat' (first | exact trivial | refine ⟨by first | rfl | assumption | exact one_if (by assumption), ?_⟩)) (i := 0) rfl rfl (fun w8 (hS8 : St _ _ [.blk b3 (.cells #[.int .i64 (41 : Int), .int .i64 (-1 : Int)] 51), _] _) => ?_)
  clear hS3
  refine hK _ _ ?_; clear hK K
  refine l_nil ?_
  refine hK7 _ _ ?_
  refine wp_ret ?_
  refine c_retTC (m := 2) rfl (by kernel_rfl) (by kernel_rfl) rfl (hS8.blk (i := 0) rfl) rfl rfl ?_
  exact ⟨_, rfl, ⟨_, _, _, PtA.p1 (fun ⟨g1, _, _⟩ => by omega), rfl⟩, hS8.drop⟩
 ·
  have hc6b := hc6
  try simp only [decide_eq_true_eq, decide_eq_false_iff_not, Bool.not_eq_true', Bool.not_eq_false', Bool.and_eq_true, Bool.or_eq_true, Int.not_lt, Int.not_le, ne_eq, Decidable.not_not] at hc6
  refine wp_skip ?_
  refine hK4 _ _ ?_
  refine wp_seq_k (fun K9 hK9 => ?_)
  refine wp_seq_k (fun K10 hK10 => ?_)
  refine wp_region_lit ?_
  refine l_q rfl rfl (q_assignI rfl) ?_
  refine l_nil ?_
  refine hK10 _ _ ?_
  refine wp_block ?_
  have hS11 := hS3.fr1; clear hS3
  refine c_loop (τ := Nat) [(4, 4), (6, 7), (19, 32)] (fun x => (fun (i : Nat) => [(6, .int .i64 (i : Int))]) x) (fun x w' => (fun (i : Nat) => St w (fun _ => False) [.blk b2 (.cells #[.string (bs t.nm), .slice ca t.cs.length cca, .int .i64 t.key, .int .i64 t.pt, .slice ba t.bd.length cba] 29), .blk b3 (.cells #[.int .i64 (0 : Int), .int .i64 (0 : Int)] 51)] w' ∧ i ≤ L.length ∧ (∀ j, j < i → ∀ v, L[j]? = some v → rightB v = true)) x) (fun x => (fun (i : Nat) => L.length - i) x) (0) ?_ (by repeat' (first | exact trivial | refine ⟨by first | rfl | exact int_succ _ | assumption, ?_⟩)) (fun i j12 w12 hJ12 K12 hK12 => ?_)
  ·
   exact ⟨hS11, Nat.zero_le _, fun j hj => by omega⟩
  ·
   obtain ⟨hS12, hi, hj⟩ := hJ12
   try dsimp only at hS12 hi hj ⊢
   refine wp_seq_k (fun K13 hK13 => ?_)
   refine wp_seq_k (fun K14 hK14 => ?_)
   refine wp_region_lit ?_
   refine l_q rfl rfl (q_moveI rfl) ?_
   refine l_q rfl rfl (q_moveS rfl) ?_
   refine l_q rfl rfl (q_lenSl (e := 32) rfl (by kernel_rfl)) ?_
   refine l_q rfl rfl (q_lss rfl rfl) ?_
   refine l_nil ?_
   refine hK14 _ _ ?_
   refine c_cond rfl (fun hc15 => ?_) (fun hc15 => ?_)
   ·
    have hc15b := hc15
    try simp only [decide_eq_true_eq, decide_eq_false_iff_not, Bool.not_eq_true', Bool.not_eq_false', Bool.and_eq_true, Bool.or_eq_true, Int.not_lt, Int.not_le, ne_eq, Decidable.not_not] at hc15
    refine wp_skip ?_
    refine hK13 _ _ ?_
    refine wp_seq_k (fun K16 hK16 => ?_)
    refine wp_block ?_
    refine wp_seq_k (fun K17 hK17 => ?_)
    refine wp_region_lit ?_
    refine l_q rfl rfl (q_moveS rfl) ?_
    refine l_q rfl rfl (q_moveI rfl) ?_
    refine l_q rfl rfl (q_ixG (e := 32) (m := 3) (j := i) rfl rfl (by kernel_rfl) (by kernel_rfl) (by first | rfl | omega) (by omega) hG (by rw [rows_len (c := vl) (m := 3) (fun _ => rfl)]; first | omega | (simp only [lls] <;> omega))) ?_
    obtain ⟨x18, hx18⟩ : ∃ x, (L)[i]? = some x := ⟨_, List.getElem?_eq_getElem (by first | omega | (simp only [lls] <;> omega) | (simp <;> omega))⟩
    have hvb_x18 := (hL x18 (List.mem_of_getElem? hx18)).2
    refine l_q rfl rfl (q_loadGA (m := 3) rfl (by kernel_rfl) (by kernel_rfl) (hG.mono hS12.base) (row_take hx18 (c := vl) (m := 3) (fun _ => rfl)) rfl (by decide)) ?_
    refine l_e rfl (fun K hK => ?_)
    refine e_call (by kernel_rfl) (rright_ok x18 (hL x18 (List.mem_of_getElem? hx18)).1 _) rfl (after_R hS12 (fun v19 w19 hv19 hS19 => ?_))
    clear hS12
    obtain rfl := hv19
    refine hK _ _ ?_; clear hK K
    refine l_q rfl rfl (q_assignB rfl) ?_
    refine l_nil ?_
    refine hK17 _ _ ?_
    refine wp_seq_k (fun K20 hK20 => ?_)
    refine wp_region_lit ?_
    refine l_q rfl rfl (q_moveB rfl) ?_
    refine l_q rfl rfl (q_not rfl) ?_
    refine l_nil ?_
    refine hK20 _ _ ?_
    refine c_cond rfl (fun hc21 => ?_) (fun hc21 => ?_)
    ·
     have hc21b := hc21
     try simp only [decide_eq_true_eq, decide_eq_false_iff_not, Bool.not_eq_true', Bool.not_eq_false', Bool.and_eq_true, Bool.or_eq_true, Int.not_lt, Int.not_le, ne_eq, Decidable.not_not] at hc21
     refine wp_seq_k (fun K22 hK22 => ?_)
     refine wp_region_lit ?_
     refine l_q rfl rfl (q_build (ps := [(0, 1), (1, 1)]) (zv := .agg #[.int .i64 0, .int .i64 0]) (by kernel_rfl) (by kernel_rfl) rfl (by repeat' (first | exact trivial | refine ⟨fun _ => by first | rfl | assumption | exact one_if (by assumption), ?_⟩ | refine ⟨fun ⟨_, h⟩ => by simp at h, ?_⟩)) rfl) ?_
     refine l_q rfl rfl (q_assignI rfl) ?_
     refine l_e rfl (fun K hK => ?_)
     refine e_storeA hS19 rfl rfl (by kernel_rfl) (by repeat' (first | exact trivial | refine ⟨by first | rfl | assumption | exact one_if (by assumption), ?_⟩)) (i := 1) rfl rfl (fun w23 (hS23 : St _ _ [_, _] _) => ?_)
     clear hS19
     refine hK _ _ ?_; clear hK K
     refine l_nil ?_
     refine hK22 _ _ ?_
     refine wp_ret ?_
     refine c_retTC (m := 2) rfl (by kernel_rfl) (by kernel_rfl) rfl (hS23.blk (i := 1) rfl) rfl rfl ?_
     exact ⟨_, rfl, ⟨_, _, _, PtA.p1 (fun ⟨_, _, g3⟩ => Bool.false_ne_true (Eq.trans (Eq.symm (by assumption)) (g3 x18 (List.mem_of_getElem? hx18)))), rfl⟩, hS23.drop⟩
    ·
     have hc21b := hc21
     try simp only [decide_eq_true_eq, decide_eq_false_iff_not, Bool.not_eq_true', Bool.not_eq_false', Bool.and_eq_true, Bool.or_eq_true, Int.not_lt, Int.not_le, ne_eq, Decidable.not_not] at hc21
     refine wp_skip ?_
     refine hK16 _ _ ?_
     refine wp_region_lit ?_
     refine l_q rfl rfl (q_moveI rfl) ?_
     refine l_q rfl rfl (q_addx rfl rfl (by first | decide | omega) (by first | decide | omega)) ?_
     refine l_q rfl rfl (q_assignI rfl) ?_
     refine l_nil ?_
     refine hK12 _ _ (came ((i + 1)) (by repeat' (first | exact Agree.refl _ _ | refine Agree.up ?_ rfl | refine Agree.hav2 ?_ rfl | refine Agree.ups2 ?_ rfl)) (by repeat' (first | exact trivial | refine ⟨by first | rfl | exact int_succ _ | assumption, ?_⟩)) ?_)
     exact ⟨⟨hS19, (by show i + 1 ≤ L.length; omega), q_next (Q := fun v => rightB v = true) hj hx18 (by assumption)⟩, by (show L.length - (i + 1) < L.length - i); omega⟩
   ·
    have hc15b := hc15
    try simp only [decide_eq_true_eq, decide_eq_false_iff_not, Bool.not_eq_true', Bool.not_eq_false', Bool.and_eq_true, Bool.or_eq_true, Int.not_lt, Int.not_le, ne_eq, Decidable.not_not] at hc15
    refine wp_exit ?_
    refine hK9 _ _ ?_
    refine wp_seq_k (fun K24 hK24 => ?_)
    refine wp_seq_k (fun K25 hK25 => ?_)
    refine wp_region_lit ?_
    refine l_q rfl rfl (q_assignI rfl) ?_
    refine l_nil ?_
    refine hK25 _ _ ?_
    refine wp_block ?_
    have hEn : L.length ≤ 16 ∧ ∀ v ∈ L, rightB v = true := ⟨by omega, fun v hv => by
     obtain ⟨j, hjl, rfl⟩ := List.getElem_of_mem hv
     exact hj j (by omega) _ (List.getElem?_eq_getElem hjl)⟩
    have hel := enc_len hEn.2
    refine c_loop (τ := Nat) [(4, 4), (8, 8), (33, 52)] (fun x => (fun (i : Nat) => [(8, .int .i64 (i : Int))]) x) (fun x w' => (fun (i : Nat) => St w (fun _ => False) [.blk b2 (.cells #[.string (bs t.nm), .slice ca t.cs.length cca, .int .i64 t.key, .int .i64 t.pt, .slice ba t.bd.length cba] 29), .blk b3 (.cells #[.int .i64 (0 : Int), .int .i64 (0 : Int)] 51)] w' ∧ i ≤ L.length ∧ KdTo t L i) x) (fun x => (fun (i : Nat) => L.length - i) x) (0) ?_ (by repeat' (first | exact trivial | refine ⟨by first | rfl | exact int_succ _ | assumption, ?_⟩)) (fun i j26 w26 hJ26 K26 hK26 => ?_)
    ·
     exact ⟨hS12, Nat.zero_le _, KdTo.zero _ _⟩
    ·
     obtain ⟨hS26, hi, hkd⟩ := hJ26
     try dsimp only at hS26 hi hkd ⊢
     refine wp_seq_k (fun K27 hK27 => ?_)
     refine wp_seq_k (fun K28 hK28 => ?_)
     refine wp_region_lit ?_
     refine l_q rfl rfl (q_moveI rfl) ?_
     refine l_q rfl rfl (q_moveS rfl) ?_
     refine l_q rfl rfl (q_lenSl (e := 32) rfl (by kernel_rfl)) ?_
     refine l_q rfl rfl (q_lss rfl rfl) ?_
     refine l_nil ?_
     refine hK28 _ _ ?_
     refine c_cond rfl (fun hc29 => ?_) (fun hc29 => ?_)
     ·
      have hc29b := hc29
      try simp only [decide_eq_true_eq, decide_eq_false_iff_not, Bool.not_eq_true', Bool.not_eq_false', Bool.and_eq_true, Bool.or_eq_true, Int.not_lt, Int.not_le, ne_eq, Decidable.not_not] at hc29
      refine wp_skip ?_
      refine hK27 _ _ ?_
      refine wp_seq_k (fun K30 hK30 => ?_)
      refine wp_block ?_
      refine wp_seq_k (fun K31 hK31 => ?_)
      obtain ⟨x32, hx32⟩ : ∃ x, (t.cs)[i]? = some x := ⟨_, List.getElem?_eq_getElem (by first | omega | (simp only [lls] <;> omega) | (simp <;> omega))⟩
      have hcb_x32 := (htc x32 (List.mem_of_getElem? hx32)).2
      refine r_any (by kernel_rfl) hS26 (fun w33 hS33 => ?_)
      clear hS26
      refine o_pure (i := 0) (fun _ _ => trivial) rfl rfl (by kernel_rfl) (goes0 rfl) (QOk.then (QOk.inBlock (QOk.then (QOk.then (QOk.inBlock (QOk.then QOk.body)))))) (fun w => q_moveS rfl) ?_
      refine o_pure (i := 1) (fun _ _ => trivial) rfl rfl (by kernel_rfl) (goes0 rfl) (QOk.then (QOk.inBlock (QOk.then (QOk.then (QOk.inBlock (QOk.then QOk.body)))))) (fun w => q_moveI rfl) ?_
      refine o_pure (i := 2) (fun _ _ => trivial) rfl rfl (by kernel_rfl) (goes0 rfl) (QOk.then (QOk.inBlock (QOk.then (QOk.then (QOk.inBlock (QOk.then QOk.body)))))) (fun w => q_ixG (e := 32) (m := 3) (j := i) rfl rfl (by kernel_rfl) (by kernel_rfl) (by first | rfl | omega) (by omega) hG (by rw [rows_len (c := vl) (m := 3) (fun _ => rfl)]; first | omega | (simp only [lls] <;> omega))) ?_
      refine o_pure (i := 3) (fun _ _ => trivial) rfl rfl (by kernel_rfl) (goes0 rfl) (QOk.then (QOk.inBlock (QOk.then (QOk.then (QOk.inBlock (QOk.then QOk.body)))))) (fun w => q_fieldG (ft := 23) (o := 0) rfl (by kernel_rfl)) ?_
      obtain ⟨x34, hx34⟩ : ∃ x, (L)[i]? = some x := ⟨_, List.getElem?_eq_getElem (by first | omega | (simp only [lls] <;> omega) | (simp <;> omega))⟩
      have hvb_x34 := (hL x34 (List.mem_of_getElem? hx34)).2
      refine o_held (i := 4) [11] (fun _ _ => trivial) rfl rfl (by kernel_rfl) (goes0 rfl) (QOk.then (QOk.inBlock (QOk.then (QOk.then (QOk.inBlock (QOk.then QOk.body)))))) (q_load1 rfl (by kernel_rfl) (SlG.cell (hG.mono hS33.base) (Gle.refl _) (row_at hx34 (c := vl) (m := 3) (fun _ => rfl) (j := 0) rfl))) ?_
      refine o_pure (i := 5) (fun j w => ⟨(fun _ _ => trivial) j w, fun _ h => h⟩) rfl rfl (by kernel_rfl) (goes0 rfl) (QOk.then (QOk.inBlock (QOk.then (QOk.then (QOk.inBlock (QOk.then QOk.body)))))) (fun w => q_fieldAddr (ft := 26) (o := 1) rfl (by kernel_rfl)) ?_
      refine o_held (i := 6) [8, 9, 10, 11] (fun j w => ⟨(fun _ _ => trivial) j w, fun _ h => h⟩) rfl rfl (by kernel_rfl) (goes0 rfl) (QOk.then (QOk.inBlock (QOk.then (QOk.then (QOk.inBlock (QOk.then QOk.body)))))) (q_load1 rfl (by kernel_rfl) (hS33.cell (i := 0) rfl rfl)) ?_
      refine o_pure (i := 7) (fun j w => ⟨(fun j w => ⟨(fun _ _ => trivial) j w, fun _ h => h⟩) j w, fun _ h => h⟩) rfl rfl (by kernel_rfl) (goes0 rfl) (QOk.then (QOk.inBlock (QOk.then (QOk.then (QOk.inBlock (QOk.then QOk.body)))))) (fun w => q_moveI rfl) ?_
      refine o_pure (i := 8) (fun j w => ⟨(fun j w => ⟨(fun _ _ => trivial) j w, fun _ h => h⟩) j w, fun _ h => h⟩) rfl rfl (by kernel_rfl) (goes0 rfl) (QOk.then (QOk.inBlock (QOk.then (QOk.then (QOk.inBlock (QOk.then QOk.body)))))) (fun w => q_ixG (e := 25) (m := 3) (j := i) rfl rfl (by kernel_rfl) (by kernel_rfl) (by first | rfl | omega) (by omega) hCG (by rw [rows_len (c := cc) (m := 3) (fun _ => rfl)]; first | omega | (simp only [lls] <;> omega))) ?_
      refine o_pure (i := 9) (fun j w => ⟨(fun j w => ⟨(fun _ _ => trivial) j w, fun _ h => h⟩) j w, fun _ h => h⟩) rfl rfl (by kernel_rfl) (goes0 rfl) (QOk.then (QOk.inBlock (QOk.then (QOk.then (QOk.inBlock (QOk.then QOk.body)))))) (fun w => q_fieldG (ft := 23) (o := 1) rfl (by kernel_rfl)) ?_
      refine o_held (i := 10) [11] (fun j w => ⟨(fun j w => ⟨(fun _ _ => trivial) j w, fun _ h => h⟩) j w, fun _ h => h⟩) rfl rfl (by kernel_rfl) (goes0 rfl) (QOk.then (QOk.inBlock (QOk.then (QOk.then (QOk.inBlock (QOk.then QOk.body)))))) (q_load1 rfl (by kernel_rfl) (SlG.cell (hCG.mono hS33.base) (Gle.refl _) (row_at hx32 (c := cc) (m := 3) (fun _ => rfl) (j := 1) rfl))) ?_
      refine o_pure (i := 11) (fun j w => ⟨(fun j w => ⟨(fun j w => ⟨(fun _ _ => trivial) j w, fun _ h => h⟩) j w, fun _ h => h⟩) j w, fun _ h => h⟩) rfl rfl (by kernel_rfl) (goes0 rfl) (QOk.then (QOk.inBlock (QOk.then (QOk.then (QOk.inBlock (QOk.then QOk.body)))))) (fun w => q_neq rfl rfl) ?_
      refine o_done (by kernel_rfl) ?_
      refine hK31 _ _ ?_
      refine c_cond rfl (fun hc35 => ?_) (fun hc35 => ?_)
      ·
       have hc35b := hc35
       try simp only [decide_eq_true_eq, decide_eq_false_iff_not, Bool.not_eq_true', Bool.not_eq_false', Bool.and_eq_true, Bool.or_eq_true, Int.not_lt, Int.not_le, ne_eq, Decidable.not_not] at hc35
       refine wp_seq_k (fun K36 hK36 => ?_)
       refine wp_region_lit ?_
       refine l_q rfl rfl (q_moveI rfl) ?_
       refine l_q rfl rfl (q_build (ps := [(0, 1), (1, 1)]) (zv := .agg #[.int .i64 0, .int .i64 0]) (by kernel_rfl) (by kernel_rfl) rfl (by repeat' (first | exact trivial | refine ⟨fun _ => by first | rfl | assumption | exact one_if (by assumption), ?_⟩ | refine ⟨fun ⟨_, h⟩ => by simp at h, ?_⟩)) rfl) ?_
       refine l_q rfl rfl (q_assignI rfl) ?_
       refine l_e rfl (fun K hK => ?_)
       refine e_storeA hS33 rfl rfl (by kernel_rfl) (by repeat' (first | exact trivial | refine ⟨by first | rfl | assumption | exact one_if (by assumption), ?_⟩)) (i := 1) rfl rfl (fun w37 (hS37 : St _ _ [_, .blk b3 (.cells #[.int .i64 (41 : Int), .int .i64 (i : Int)] 51)] _) => ?_)
       clear hS33
       refine hK _ _ ?_; clear hK K
       refine l_nil ?_
       refine hK36 _ _ ?_
       refine wp_ret ?_
       refine c_retTC (m := 2) rfl (by kernel_rfl) (by kernel_rfl) rfl (hS37.blk (i := 1) rfl) rfl rfl ?_
       exact ⟨_, rfl, ⟨_, _, _, PtA.p2 ⟨by omega, hEn.1, hEn.2⟩ hx34 hx32 hkd (by omega), rfl⟩, hS37.drop⟩
      ·
       have hc35b := hc35
       try simp only [decide_eq_true_eq, decide_eq_false_iff_not, Bool.not_eq_true', Bool.not_eq_false', Bool.and_eq_true, Bool.or_eq_true, Int.not_lt, Int.not_le, ne_eq, Decidable.not_not] at hc35
       refine wp_skip ?_
       refine hK30 _ _ ?_
       refine wp_region_lit ?_
       refine l_q rfl rfl (q_moveI rfl) ?_
       refine l_q rfl rfl (q_addx rfl rfl (by first | decide | omega) (by first | decide | omega)) ?_
       refine l_q rfl rfl (q_assignI rfl) ?_
       refine l_nil ?_
       refine hK26 _ _ (came ((i + 1)) (by repeat' (first | exact Agree.refl _ _ | refine Agree.up ?_ rfl | refine Agree.hav2 ?_ rfl | refine Agree.ups2 ?_ rfl)) (by repeat' (first | exact trivial | refine ⟨by first | rfl | exact int_succ _ | assumption, ?_⟩)) ?_)
       exact ⟨⟨hS33, (by show i + 1 ≤ L.length; omega), hkd.next hx34 hx32 (by omega)⟩, by (show L.length - (i + 1) < L.length - i); omega⟩
     ·
      have hc29b := hc29
      try simp only [decide_eq_true_eq, decide_eq_false_iff_not, Bool.not_eq_true', Bool.not_eq_false', Bool.and_eq_true, Bool.or_eq_true, Int.not_lt, Int.not_le, ne_eq, Decidable.not_not] at hc29
      refine wp_exit ?_
      refine hK24 _ _ ?_
      refine wp_seq_k (fun K38 hK38 => ?_)
      refine wp_seq_k (fun K39 hK39 => ?_)
      refine wp_region_lit ?_
      refine l_q rfl rfl (q_fieldAddr (ft := 3) (o := 3) rfl (by kernel_rfl)) ?_
      refine l_q rfl rfl (q_load1 rfl (by kernel_rfl) (hS26.cell (i := 0) rfl rfl)) ?_
      refine l_q rfl rfl (q_gtr rfl rfl) ?_
      refine l_nil ?_
      refine hK39 _ _ ?_
      refine c_cond rfl (fun hc40 => ?_) (fun hc40 => ?_)
      ·
       have hc40b := hc40
       try simp only [decide_eq_true_eq, decide_eq_false_iff_not, Bool.not_eq_true', Bool.not_eq_false', Bool.and_eq_true, Bool.or_eq_true, Int.not_lt, Int.not_le, ne_eq, Decidable.not_not] at hc40
       refine wp_seq_k (fun K41 hK41 => ?_)
       refine wp_region_lit ?_
       refine l_q rfl rfl (q_moveS rfl) ?_
       refine l_e rfl (fun K hK => ?_)
       refine e_call (by kernel_rfl) (rency_ok L hL hEn L.length (by first | omega | (simp only [lls] <;> omega)) _ _ _ (hG.mono hS26.base)) rfl (after_N hS26 (fun v42 G42 w42 hv42 hS42 => ?_))
       clear hS26
       obtain ⟨oa42, oc42, rfl, rfl⟩ := hv42
       have hS43 : St _ _ [.ow 5 1 oa42 ((enc L).length) oc42 (bv (enc L)), _, _] _ := hS42; clear hS42
       refine hK _ _ ?_; clear hK K
       refine l_q rfl rfl (q_move rfl) ?_
       refine l_q rfl rfl (q_extract rfl rfl) ?_
       refine l_q rfl rfl (q_extract rfl rfl) ?_
       refine l_q rfl rfl (q_assignS rfl) ?_
       refine l_q rfl rfl (q_assignI rfl) ?_
       refine l_nil ?_
       refine hK41 _ _ ?_
       refine wp_seq_k (fun K44 hK44 => ?_)
       have hhl := hashB_lt (enc L)
       have hml := Nat.mod_lt (hashB (enc L)) (y := t.pt.toNat) (by omega)
       refine r_any (by kernel_rfl) hS43 (fun w45 hS45 => ?_)
       clear hS43
       refine o_pure (i := 0) (fun _ _ => trivial) rfl rfl (by kernel_rfl) (goes0 rfl) (QOk.then (QOk.then QOk.body)) (fun w => q_moveS rfl) ?_
       refine o_pure (i := 2) (fun _ _ => trivial) rfl rfl (by kernel_rfl) (goes0 rfl) (QOk.then (QOk.then QOk.body)) (fun w => q_fieldAddr (ft := 3) (o := 3) rfl (by kernel_rfl)) ?_
       refine o_held (i := 3) [4, 5, 6, 8, 9] (fun _ _ => trivial) rfl rfl (by kernel_rfl) (goes0 rfl) (QOk.then (QOk.then QOk.body)) (q_load1 rfl (by kernel_rfl) (hS45.cell (i := 1) rfl rfl)) ?_
       refine o_pure (i := 4) (fun j w => ⟨(fun _ _ => trivial) j w, fun _ h => h⟩) rfl rfl (by kernel_rfl) (goes0 rfl) (QOk.then (QOk.then QOk.body)) (fun w => q_convN (a := t.pt.toNat) (int_nat (by omega) rfl) (by kernel_rfl) (by kernel_rfl) (wrap_fit_u32 (by omega))) ?_
       refine o_eff (i := 1) (by kernel_rfl) rfl (goes0 rfl) (fun K hK => ?_)
       refine e_call (by kernel_rfl) (rhash_ok (enc L) (enc_bytes hL) ((enc L).length) (by first | omega | (simp only [lls] <;> omega)) (by first | omega | (simp only [lls] <;> omega)) _ _ _ (hS45.owG (i := 0) rfl)) rfl (after_R hS45 (fun v46 w46 hv46 hS46 => ?_))
       clear hS45
       obtain rfl := hv46
       refine hK _ _ ⟨trivial, fun _ _ => by first | exact q_load1 rfl (by kernel_rfl) (hS46.cell (i := 1) rfl rfl)⟩ ?_; clear hK K
       refine o_pure (i := 5) (fun j w => ⟨(fun _ _ => trivial) j w, fun _ h => h⟩) rfl rfl (by kernel_rfl) (goes0 rfl) (QOk.then (QOk.then QOk.body)) (fun w => q_remN (a := (hashB (enc L))) (b := t.pt.toNat) rfl rfl (by first | decide | omega)) ?_
       refine o_pure (i := 6) (fun j w => ⟨(fun _ _ => trivial) j w, fun _ h => h⟩) rfl rfl (by kernel_rfl) (goes0 rfl) (QOk.then (QOk.then QOk.body)) (fun w => q_convN (a := ((hashB (enc L)) % t.pt.toNat)) rfl (by kernel_rfl) (by kernel_rfl) (wrap_fit_i64 (by omega))) ?_
       refine o_eff (i := 7) (by kernel_rfl) rfl (goes0 rfl) (fun K hK => ?_)
       refine e_call (by kernel_rfl) (fine_ok _) rfl (after_R hS46 (fun v47 w47 hv47 hS47 => ?_))
       clear hS46
       obtain rfl := hv47
       refine hK _ _ ⟨trivial, fun _ _ => by first | exact q_load1 rfl (by kernel_rfl) (hS47.cell (i := 1) rfl rfl)⟩ ?_; clear hK K
       refine o_pure (i := 8) (fun j w => ⟨(fun _ _ => trivial) j w, fun _ h => h⟩) rfl rfl (by kernel_rfl) (goes0 rfl) (QOk.then (QOk.then QOk.body)) (fun w => q_assignI rfl) ?_
       refine o_eff (i := 9) (by kernel_rfl) rfl (goes0 rfl) (fun K hK => ?_)
       refine e_storeA hS47 rfl rfl (by kernel_rfl) (by repeat' (first | exact trivial | refine ⟨by first | rfl | assumption | exact one_if (by assumption), ?_⟩)) (i := 2) rfl rfl (fun w48 (hS48 : St _ _ [_, _, .blk b3 (.cells #[.int .i64 (0 : Int), .int .i64 (-1 : Int)] 51)] _) => ?_)
       clear hS47
       refine hK _ _ ⟨trivial, fun h => absurd h (by decide)⟩ ?_; clear hK K
       refine o_done (by kernel_rfl) ?_
       refine hK44 _ _ ?_
       refine wp_ret ?_
       refine c_retTC (m := 2) rfl (by kernel_rfl) (by kernel_rfl) rfl (hS48.blk (i := 2) rfl) rfl rfl ?_
       have hii : i = L.length := by omega
       rw [hii] at hkd
       exact ⟨_, rfl, ⟨_, _, _, PtA.ok ⟨by omega, hEn.1, hEn.2⟩ hkd (by rw [partN_hash (by omega)]), rfl⟩, hS48.drop⟩
      ·
       have hc40b := hc40
       try simp only [decide_eq_true_eq, decide_eq_false_iff_not, Bool.not_eq_true', Bool.not_eq_false', Bool.and_eq_true, Bool.or_eq_true, Int.not_lt, Int.not_le, ne_eq, Decidable.not_not] at hc40
       refine wp_skip ?_
       refine hK38 _ _ ?_
       refine wp_seq_k (fun K49 hK49 => ?_)
       refine wp_region_lit ?_
       refine l_q rfl rfl (q_assignI rfl) ?_
       refine l_nil ?_
       refine hK49 _ _ ?_
       refine wp_seq_k (fun K50 hK50 => ?_)
       refine wp_seq_k (fun K51 hK51 => ?_)
       refine wp_region_lit ?_
       refine l_q rfl rfl (q_assignI rfl) ?_
       refine l_nil ?_
       refine hK51 _ _ ?_
       refine wp_block ?_
       have hii : i = L.length := by omega
       rw [hii] at hkd
       clear hii
       obtain ⟨v0, hv0⟩ : ∃ v, L[0]? = some v := ⟨_, List.getElem?_eq_getElem (by omega)⟩
       refine c_loop (τ := Nat) [(11, 12), (69, 87)] (fun x => (fun (i : Nat) => [(12, .int .i64 (i : Int)), (11, .int .i64 (((cntB (t.bd.take i) v0) : Nat) : Int))]) x) (fun x w' => (fun (i : Nat) => St w (fun _ => False) [.blk b2 (.cells #[.string (bs t.nm), .slice ca t.cs.length cca, .int .i64 t.key, .int .i64 t.pt, .slice ba t.bd.length cba] 29), .blk b3 (.cells #[.int .i64 (0 : Int), .int .i64 (0 : Int)] 51)] w' ∧ i ≤ t.bd.length) x) (fun x => (fun (i : Nat) => t.bd.length - i) x) (0) ?_ (by refine ⟨rfl, ⟨congrArg (fun n : Nat => Value.int .i64 (n : Int)) (cntB_0 _ _), trivial⟩⟩) (fun i j52 w52 hJ52 K52 hK52 => ?_)
       ·
        exact ⟨hS26, Nat.zero_le _⟩
       ·
        obtain ⟨hS52, hi⟩ := hJ52
        try dsimp only at hS52 hi ⊢
        have hcl4 := cntB_le (t.bd.take i) v0
        rw [List.length_take] at hcl4
        refine wp_seq_k (fun K53 hK53 => ?_)
        refine wp_seq_k (fun K54 hK54 => ?_)
        refine wp_region_lit ?_
        refine l_q rfl rfl (q_moveI rfl) ?_
        refine l_q rfl rfl (q_fieldAddr (ft := 27) (o := 4) rfl (by kernel_rfl)) ?_
        refine l_q rfl rfl (q_load1 rfl (by kernel_rfl) (hS52.cell (i := 0) rfl rfl)) ?_
        refine l_q rfl rfl (q_lenSl (e := 32) rfl (by kernel_rfl)) ?_
        refine l_q rfl rfl (q_lss rfl rfl) ?_
        refine l_nil ?_
        refine hK54 _ _ ?_
        refine c_cond rfl (fun hc55 => ?_) (fun hc55 => ?_)
        ·
         have hc55b := hc55
         try simp only [decide_eq_true_eq, decide_eq_false_iff_not, Bool.not_eq_true', Bool.not_eq_false', Bool.and_eq_true, Bool.or_eq_true, Int.not_lt, Int.not_le, ne_eq, Decidable.not_not] at hc55
         refine wp_skip ?_
         refine hK53 _ _ ?_
         refine wp_seq_k (fun K56 hK56 => ?_)
         refine wp_block ?_
         refine wp_seq_k (fun K57 hK57 => ?_)
         refine r_any (by kernel_rfl) hS52 (fun w58 hS58 => ?_)
         clear hS52
         refine o_pure (i := 0) (fun _ _ => trivial) rfl rfl (by kernel_rfl) (goes0 rfl) (QOk.then (QOk.inBlock (QOk.then (QOk.then (QOk.inBlock (QOk.then QOk.body)))))) (fun w => q_fieldAddr (ft := 27) (o := 4) rfl (by kernel_rfl)) ?_
         refine o_held (i := 1) [3, 4, 8, 9] (fun _ _ => trivial) rfl rfl (by kernel_rfl) (goes0 rfl) (QOk.then (QOk.inBlock (QOk.then (QOk.then (QOk.inBlock (QOk.then QOk.body)))))) (q_load1 rfl (by kernel_rfl) (hS58.cell (i := 0) rfl rfl)) ?_
         refine o_pure (i := 2) (fun j w => ⟨(fun _ _ => trivial) j w, fun _ h => h⟩) rfl rfl (by kernel_rfl) (goes0 rfl) (QOk.then (QOk.inBlock (QOk.then (QOk.then (QOk.inBlock (QOk.then QOk.body)))))) (fun w => q_moveI rfl) ?_
         refine o_pure (i := 3) (fun j w => ⟨(fun _ _ => trivial) j w, fun _ h => h⟩) rfl rfl (by kernel_rfl) (goes0 rfl) (QOk.then (QOk.inBlock (QOk.then (QOk.then (QOk.inBlock (QOk.then QOk.body)))))) (fun w => q_ixG (e := 32) (m := 3) (j := i) rfl rfl (by kernel_rfl) (by kernel_rfl) (by first | rfl | omega) (by omega) hBG (by rw [rows_len (c := vl) (m := 3) (fun _ => rfl)]; first | omega | (simp only [lls] <;> omega))) ?_
         obtain ⟨x59, hx59⟩ : ∃ x, (t.bd)[i]? = some x := ⟨_, List.getElem?_eq_getElem (by first | omega | (simp only [lls] <;> omega) | (simp <;> omega))⟩
         have hvb_x59 := (htb x59 (List.mem_of_getElem? hx59)).2
         refine o_held (i := 4) [8, 9] (fun j w => ⟨(fun _ _ => trivial) j w, fun _ h => h⟩) rfl rfl (by kernel_rfl) (goes0 rfl) (QOk.then (QOk.inBlock (QOk.then (QOk.then (QOk.inBlock (QOk.then QOk.body)))))) (q_loadGA (m := 3) rfl (by kernel_rfl) (by kernel_rfl) (hBG.mono hS58.base) (row_take hx59 (c := vl) (m := 3) (fun _ => rfl)) rfl (by decide)) ?_
         refine o_pure (i := 5) (fun j w => ⟨(fun j w => ⟨(fun _ _ => trivial) j w, fun _ h => h⟩) j w, fun _ h => h⟩) rfl rfl (by kernel_rfl) (goes0 rfl) (QOk.then (QOk.inBlock (QOk.then (QOk.then (QOk.inBlock (QOk.then QOk.body)))))) (fun w => q_moveS rfl) ?_
         refine o_pure (i := 6) (fun j w => ⟨(fun j w => ⟨(fun _ _ => trivial) j w, fun _ h => h⟩) j w, fun _ h => h⟩) rfl rfl (by kernel_rfl) (goes0 rfl) (QOk.then (QOk.inBlock (QOk.then (QOk.then (QOk.inBlock (QOk.then QOk.body)))))) (fun w => q_ixG (e := 32) (m := 3) (j := 0) rfl rfl (by kernel_rfl) (by kernel_rfl) (by first | rfl | omega) (by omega) hG (by rw [rows_len (c := vl) (m := 3) (fun _ => rfl)]; first | omega | (simp only [lls] <;> omega))) ?_
         refine o_held (i := 7) [8, 9] (fun j w => ⟨(fun j w => ⟨(fun _ _ => trivial) j w, fun _ h => h⟩) j w, fun _ h => h⟩) rfl rfl (by kernel_rfl) (goes0 rfl) (QOk.then (QOk.inBlock (QOk.then (QOk.then (QOk.inBlock (QOk.then QOk.body)))))) (q_loadGA (m := 3) rfl (by kernel_rfl) (by kernel_rfl) (hG.mono hS58.base) (row_take hv0 (c := vl) (m := 3) (fun _ => rfl)) rfl (by decide)) ?_
         refine o_eff (i := 8) (by kernel_rfl) rfl (goes0 rfl) (fun K hK => ?_)
         refine e_call (by kernel_rfl) (rorder_ok x59 v0 (htb x59 (List.mem_of_getElem? hx59)).1 (hL v0 (List.mem_of_getElem? hv0)).1 _) rfl (after_R hS58 (fun v60 w60 hv60 hS60 => ?_))
         clear hS58
         obtain rfl := hv60
         refine hK _ _ ⟨⟨⟨trivial, fun h => absurd h (by decide)⟩, fun h => absurd h (by decide)⟩, fun h => absurd h (by decide)⟩ ?_; clear hK K
         refine o_pure (i := 9) (fun j w => ⟨(fun j w => ⟨(fun j w => ⟨(fun _ _ => trivial) j w, fun _ h => h⟩) j w, fun _ h => h⟩) j w, fun _ h => h⟩) rfl rfl (by kernel_rfl) (goes0 rfl) (QOk.then (QOk.inBlock (QOk.then (QOk.then (QOk.inBlock (QOk.then QOk.body)))))) (fun w => q_leq rfl rfl) ?_
         refine o_done (by kernel_rfl) ?_
         refine hK57 _ _ ?_
         refine c_cond rfl (fun hc61 => ?_) (fun hc61 => ?_)
         ·
          have hc61b := hc61
          try simp only [decide_eq_true_eq, decide_eq_false_iff_not, Bool.not_eq_true', Bool.not_eq_false', Bool.and_eq_true, Bool.or_eq_true, Int.not_lt, Int.not_le, ne_eq, Decidable.not_not] at hc61
          refine wp_region_lit ?_
          refine l_q rfl rfl (q_moveI rfl) ?_
          refine l_q rfl rfl (q_addx rfl rfl (by first | decide | omega) (by first | decide | omega)) ?_
          refine l_q rfl rfl (q_assignI rfl) ?_
          refine l_nil ?_
          refine hK56 _ _ ?_
          refine wp_region_lit ?_
          refine l_q rfl rfl (q_moveI rfl) ?_
          refine l_q rfl rfl (q_addx rfl rfl (by first | decide | omega) (by first | decide | omega)) ?_
          refine l_q rfl rfl (q_assignI rfl) ?_
          refine l_nil ?_
          refine hK52 _ _ (came ((i + 1)) (by repeat' (first | exact Agree.refl _ _ | refine Agree.up ?_ rfl | refine Agree.hav2 ?_ rfl | refine Agree.ups2 ?_ rfl)) (by refine ⟨int_succ _, ⟨by first | exact congrArg (Value.int .i64) (by rw [cntB_take hx59, if_pos (by omega)]; omega) | exact congrArg (Value.int .i64) (by rw [cntB_take hx59, if_neg (by omega)]; omega), trivial⟩⟩) ?_)
          exact ⟨⟨hS60, (by show i + 1 ≤ t.bd.length; omega)⟩, by (show t.bd.length - (i + 1) < t.bd.length - i); omega⟩
         ·
          have hc61b := hc61
          try simp only [decide_eq_true_eq, decide_eq_false_iff_not, Bool.not_eq_true', Bool.not_eq_false', Bool.and_eq_true, Bool.or_eq_true, Int.not_lt, Int.not_le, ne_eq, Decidable.not_not] at hc61
          refine wp_skip ?_
          refine hK56 _ _ ?_
          refine wp_region_lit ?_
          refine l_q rfl rfl (q_moveI rfl) ?_
          refine l_q rfl rfl (q_addx rfl rfl (by first | decide | omega) (by first | decide | omega)) ?_
          refine l_q rfl rfl (q_assignI rfl) ?_
          refine l_nil ?_
          refine hK52 _ _ (came ((i + 1)) (by repeat' (first | exact Agree.refl _ _ | refine Agree.up ?_ rfl | refine Agree.hav2 ?_ rfl | refine Agree.ups2 ?_ rfl)) (by refine ⟨int_succ _, ⟨by first | exact congrArg (Value.int .i64) (by rw [cntB_take hx59, if_pos (by omega)]; omega) | exact congrArg (Value.int .i64) (by rw [cntB_take hx59, if_neg (by omega)]; omega), trivial⟩⟩) ?_)
          exact ⟨⟨hS60, (by show i + 1 ≤ t.bd.length; omega)⟩, by (show t.bd.length - (i + 1) < t.bd.length - i); omega⟩
        ·
         have hc55b := hc55
         try simp only [decide_eq_true_eq, decide_eq_false_iff_not, Bool.not_eq_true', Bool.not_eq_false', Bool.and_eq_true, Bool.or_eq_true, Int.not_lt, Int.not_le, ne_eq, Decidable.not_not] at hc55
         refine wp_exit ?_
         refine hK50 _ _ ?_
         refine wp_seq_k (fun K62 hK62 => ?_)
         refine wp_region_lit ?_
         refine l_q rfl rfl (q_moveI rfl) ?_
         refine l_e rfl (fun K hK => ?_)
         refine e_call (by kernel_rfl) (fine_ok _) rfl (after_R hS52 (fun v63 w63 hv63 hS63 => ?_))
         clear hS52
         obtain rfl := hv63
         refine hK _ _ ?_; clear hK K
         refine l_q rfl rfl (q_assignI rfl) ?_
         refine l_e rfl (fun K hK => ?_)
         refine e_storeA hS63 rfl rfl (by kernel_rfl) (by repeat' (first | exact trivial | refine ⟨by first | rfl | assumption | exact one_if (by assumption), ?_⟩)) (i := 1) rfl rfl (fun w64 (hS64 : St _ _ [_, _] _) => ?_)
         clear hS63
         refine hK _ _ ?_; clear hK K
         refine l_nil ?_
         refine hK62 _ _ ?_
         refine wp_ret ?_
         refine c_retTC (m := 2) rfl (by kernel_rfl) (by kernel_rfl) rfl (hS64.blk (i := 1) rfl) rfl rfl ?_
         exact ⟨_, rfl, ⟨_, _, _, PtA.ok ⟨by omega, hEn.1, hEn.2⟩ hkd (congrArg (fun n : Nat => (n : Int)) (part_cnt hRt' (by omega) hv0 (by omega))), rfl⟩, hS64.drop⟩

end Go.Proofs.YtmemgpcgjephmaaDoor
