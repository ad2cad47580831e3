/- The catalog: what is right; few, short; how many parts; the hash. -/
import Derived.Test.YtmemgpcgjephmaaGreatDoorCb
set_option linter.unusedVariables false
set_option linter.unusedSimpArgs false
namespace Go.Proofs.YtmemgpcgjephmaaGreatDoor
open Go.RowKit
theorem ColI.at' {t : Tb} {i : Nat} {d : Co} (h : t.cs[i]? = some d) (hk : ColsTo t i) (hb : pB (¬ColP t i d) = true) : ColI t ((i : Nat) : Int) := .inr ⟨i, d, rfl, h, hk, pB_iff.1 hb⟩
theorem ColI.end' {t : Tb} (hk : ColsTo t t.cs.length) : ColI t (-1) := .inl ⟨by decide, hk⟩
theorem cols_step {t : Tb} {i : Nat} {d : Co} (hk : ColsTo t i) (h : t.cs[i]? = some d) (hb : pB (¬ColP t i d) = false) : ColsTo t (i + 1) := hk.next h (Classical.byContradiction (pB_no.1 hb))
theorem col_wrong {t : Tb} {r : Int} (h : ColI t r) (hH : HeadP t) (h0 : 0 ≤ r) : RtA t 182 r := by
  rcases h with ⟨h1, _⟩ | ⟨i, d, rfl, h2, h3, h4⟩
  · omega
  · exact .inr (.inl ⟨hH, i, d, h2, h3, h4, rfl, rfl⟩)
theorem col_fine {t : Tb} {r : Int} (h : ColI t r) (hH : HeadP t) (h0 : r < 0) : RtA t 0 (-1) := by
  rcases h with ⟨_, h1⟩ | ⟨i, d, rfl, _⟩
  · exact .inr (.inr ⟨⟨hH, h1⟩, rfl, rfl⟩)
  · omega
/-- Few enough. -/
def ShP (l : List Vl) : Prop := l.length ≤ 100 ∧ ∀ (i : Nat) (v : Vl), l[i]? = some v → v.2.2.length ≤ 500
def FewP (t : Tb) : Prop := t.nm.length ≤ 100 ∧ t.cs.length ≤ 100 ∧ t.bd.length ≤ 100 ∧ (∀ (i : Nat) (c : Co), t.cs[i]? = some c → c.nm.length ≤ 100) ∧ ShP t.bd
theorem sh_no {l : List Vl} {i : Nat} {v : Vl} (hv : l[i]? = some v) (h : 100 ≤ i ∨ 500 < v.2.2.length) : false = pB (ShP l) := (pB_f fun h' => by
  have h1 := (List.getElem?_eq_some_iff.1 hv).1
  have h2 := h'.1
  have h3 := h'.2 i v hv
  omega).symm
theorem sh_no1 {l : List Vl} {i : Nat} (hv : i < l.length) (h : 100 ≤ i) : false = pB (ShP l) := (pB_f fun h' => by have h2 := h'.1; omega).symm
theorem sh_yes {l : List Vl} (h1 : l.length ≤ 100) (h : ∀ j, j < l.length → ∀ v, l[j]? = some v → v.2.2.length ≤ 500) : true = pB (ShP l) := (pB_t ⟨h1, fun i v hv => h i (List.getElem?_eq_some_iff.1 hv).1 v hv⟩).symm
theorem fw_no {t : Tb} (h : ¬(t.nm.length ≤ 100 ∧ t.cs.length ≤ 100 ∧ t.bd.length ≤ 100)) : false = pB (FewP t) := (pB_f fun h' => h ⟨h'.1, h'.2.1, h'.2.2.1⟩).symm
theorem fw_no2 {t : Tb} {i : Nat} {c : Co} (hc : t.cs[i]? = some c) (h : 100 < c.nm.length) : false = pB (FewP t) := (pB_f fun h' => by have := h'.2.2.2.1 i c hc; omega).symm
theorem fw_yes {t : Tb} (h : t.nm.length ≤ 100 ∧ t.cs.length ≤ 100 ∧ t.bd.length ≤ 100) (h2 : ∀ j, j < t.cs.length → ∀ c, t.cs[j]? = some c → c.nm.length ≤ 100) : pB (ShP t.bd) = pB (FewP t) := by
  rw [Bool.eq_iff_iff, pB_iff, pB_iff]
  exact ⟨fun h3 => ⟨h.1, h.2.1, h.2.2, fun i c hc => h2 i (List.getElem?_eq_some_iff.1 hc).1 c hc, h3⟩, fun h3 => h3.2.2.2.2⟩
theorem q_next {α : Type} {L : List α} {Q : α → Prop} {i : Nat} {x : α} (hj : ∀ j, j < i → ∀ v, L[j]? = some v → Q v) (hx : L[i]? = some x) (h : Q x) : ∀ j, j < i + 1 → ∀ v, L[j]? = some v → Q v := by
  intro j hj' v hv
  by_cases e : j = i
  · subst e; rw [hx] at hv; injection hv with hv; subst hv; exact h
  · exact hj j (by omega) v hv
theorem wrap_fit_u32 {a : Nat} (h : a < 4294967296) : IntKind.u32.wrap (a : Int) = (a : Int) := by rw [wrap_u (k := .u32) rfl a]; congr 1; exact Nat.mod_eq_of_lt h
theorem hash_0 (l : List Nat) : 2166136261 = hashB (l.take 0) := rfl
theorem hash_end {l : List Nat} {i : Nat} (h : l.length ≤ i) : hashB (l.take i) = hashB l := by rw [List.take_of_length_le h]
attribute [local irreducible] Oper.wp Sem.run Code.wp wpList wpAnyO callFunc execOp Calls
attribute [local irreducible] toU enc encR rightB vcmp pB okc hashB hashF overN

set_option maxRecDepth 100000 in
theorem cidx_ok (t : Tb) (htn : Bytes t.nm) (htc : CsOk t.cs) (htb : VsOk t.bd) (hmc : t.cs.length ≤ 2000000) (cca : Nat) (hcl : t.cs.length ≤ cca) (bt bi : Nat) (ca ba : Option Addr) (cba : Nat) (w : World) (g : Gh) (hg : Rog [.blk bt (.cells #[.string (bs t.nm), .slice ca t.cs.length cca, .int .i64 t.key, .int .i64 t.pt, .slice ba t.bd.length cba] 25), .blk bi (.cells #[.int .i64 ((0 : Nat) : Int)] 3)] w g) (hCG : SlG g ca (List.flatMap cc t.cs)) (hS : St w (owns [.blk bt (.cells #[.string (bs t.nm), .slice ca t.cs.length cca, .int .i64 t.key, .int .i64 t.pt, .slice ba t.bd.length cba] 25), .blk bi (.cells #[.int .i64 ((0 : Nat) : Int)] 3)]) [.blk bt (.cells #[.string (bs t.nm), .slice ca t.cs.length cca, .int .i64 t.key, .int .i64 t.pt, .slice ba t.bd.length cba] 25), .blk bi (.cells #[.int .i64 ((0 : Nat) : Int)] 3)] w) : Calls Tryz.prog 36 #[.slice ca t.cs.length cca, .func (.func 37) #[] #[.pointer (some ⟨bt, 0, none⟩), .pointer (some ⟨bi, 0, none⟩)]] w (Post w [.blk bt (.cells #[.string (bs t.nm), .slice ca t.cs.length cca, .int .i64 t.key, .int .i64 t.pt, .slice ba t.bd.length cba] 25), .blk bi (.cells #[.int .i64 ((0 : Nat) : Int)] 3)] fun v G => (∃ r : Int, v = .int .i64 r ∧ ColI t r) ∧ ∃ z, G = [.blk bt (.cells #[.string (bs t.nm), .slice ca t.cs.length cca, .int .i64 t.key, .int .i64 t.pt, .slice ba t.bd.length cba] 25), .blk bi (.cells #[.int .i64 z] 3)]) := by
 refine c_enter Tryz.func36 rfl rfl rfl ?_
 refine wp_seq_k (fun K1 hK1 => ?_)
 refine wp_region_lit ?_
 refine l_q rfl rfl (q_assignI rfl) ?_
 refine l_nil ?_
 refine hK1 _ _ ?_
 refine wp_seq_k (fun K2 hK2 => ?_)
 refine wp_seq_k (fun K3 hK3 => ?_)
 refine wp_region_lit ?_
 refine l_q rfl rfl (q_moveS rfl) ?_
 refine l_q rfl rfl (q_lenSl (e := 47) rfl (by kernel_rfl)) ?_
 refine l_q rfl rfl (q_moveI rfl) ?_
 refine l_nil ?_
 refine hK3 _ _ ?_
 refine wp_block ?_
 refine c_loop (τ := Nat) [(4, 5), (8, 18)] (fun x => (fun (i : Nat) => [(8, .int .i64 (i : Int))]) x) (fun x w' => (fun (i : Nat) => St w (owns [.blk bt (.cells #[.string (bs t.nm), .slice ca t.cs.length cca, .int .i64 t.key, .int .i64 t.pt, .slice ba t.bd.length cba] 25), .blk bi (.cells #[.int .i64 ((0 : Nat) : Int)] 3)]) [.blk bt (.cells #[.string (bs t.nm), .slice ca t.cs.length cca, .int .i64 t.key, .int .i64 t.pt, .slice ba t.bd.length cba] 25), .blk bi (.cells #[.int .i64 (i : Int)] 3)] w' ∧ i ≤ t.cs.length ∧ ColsTo t i) x) (fun x => (fun (i : Nat) => t.cs.length - i) x) (0) ?_ (by repeat' (first | exact trivial | refine ⟨by first | rfl | exact int_succ _ | assumption, ?_⟩)) (fun i j4 w4 hJ4 K4 hK4 => ?_)
 ·
  exact ⟨hS, Nat.zero_le _, ColsTo.zero _⟩
 ·
  obtain ⟨hS4, hi, hk⟩ := hJ4
  try dsimp only at hS4 hi hk ⊢
  refine wp_seq_k (fun K5 hK5 => ?_)
  refine wp_region_lit ?_
  refine l_q rfl rfl (q_lss rfl rfl) ?_
  refine l_nil ?_
  refine hK5 _ _ ?_
  refine wp_seq_k (fun K6 hK6 => ?_)
  refine c_cond rfl (fun hc7 => ?_) (fun hc7 => ?_)
  ·
   have hc7b := hc7
   try simp only [decide_eq_true_eq, decide_eq_false_iff_not, Bool.not_eq_true', Bool.not_eq_false', Bool.and_eq_true, Bool.or_eq_true, Int.not_lt, Int.not_le, ne_eq, Decidable.not_not] at hc7
   refine wp_skip ?_
   refine hK6 _ _ ?_
   refine wp_seq_k (fun K8 hK8 => ?_)
   refine wp_block ?_
   refine wp_seq_k (fun K9 hK9 => ?_)
   refine wp_region_lit ?_
   refine l_q rfl rfl (q_moveI rfl) ?_
   refine l_q rfl rfl (q_assignI rfl) ?_
   refine l_nil ?_
   refine hK9 _ _ ?_
   refine wp_seq_k (fun K10 hK10 => ?_)
   refine wp_region_lit ?_
   refine l_q rfl rfl (q_move rfl) ?_
   refine l_q rfl rfl (q_moveS rfl) ?_
   refine l_q rfl rfl (q_moveI rfl) ?_
   refine l_q rfl rfl (q_ixG (e := 47) (m := 3) (j := i) rfl rfl (by kernel_rfl) (by kernel_rfl) (by first | rfl | omega) (by omega) hCG (by rw [rows_len (c := cc) (m := 3) (fun _ => rfl)]; first | omega | (simp only [lls] <;> omega))) ?_
   obtain ⟨x11, hx11⟩ : ∃ x, (t.cs)[i]? = some x := ⟨_, List.getElem?_eq_getElem (by first | omega | (simp only [lls] <;> omega) | (simp <;> omega))⟩
   have hcb_x11 := (htc x11 (List.mem_of_getElem? hx11)).2
   refine l_q rfl rfl (q_loadGA (m := 3) rfl (by kernel_rfl) (by kernel_rfl) (hCG.mono (hg.le hS4)) (row_take hx11 (c := cc) (m := 3) (fun _ => rfl)) rfl (by decide)) ?_
   refine l_e rfl (fun K hK => ?_)
   refine e_callV (by kernel_rfl) rfl (rclos_ok cca t htn htc htb hmc hcl x11 (htc x11 (List.mem_of_getElem? hx11)).1 i (by omega) bt bi ca ba cba _ _ (St.rogR (Γ1 := [_, _]) hS4 hg) hCG (St.begin (Γ := [_, _]) hS4)) rfl (after_M (Γ1 := [_, _]) hS4 (fun v12 G12 w12 hv12 hS12 => ?_))
   clear hS4
   obtain ⟨rfl, rfl⟩ := hv12
   have hS13 : St _ _ [.blk bt (.cells #[.string (bs t.nm), .slice ca t.cs.length cca, .int .i64 t.key, .int .i64 t.pt, .slice ba t.bd.length cba] 25), .blk bi (.cells #[.int .i64 (((i + 1) : Nat) : Int)] 3)] _ := hS12; clear hS12
   refine hK _ _ ?_; clear hK K
   refine l_nil ?_
   refine hK10 _ _ ?_
   refine c_cond rfl (fun hc14 => ?_) (fun hc14 => ?_)
   ·
    have hc14b := hc14
    try simp only [decide_eq_true_eq, decide_eq_false_iff_not, Bool.not_eq_true', Bool.not_eq_false', Bool.and_eq_true, Bool.or_eq_true, Int.not_lt, Int.not_le, ne_eq, Decidable.not_not] at hc14
    refine wp_seq_k (fun K15 hK15 => ?_)
    refine wp_region_lit ?_
    refine l_q rfl rfl (q_moveI rfl) ?_
    refine l_q rfl rfl (q_assignI rfl) ?_
    refine l_nil ?_
    refine hK15 _ _ ?_
    refine wp_ret ?_
    refine c_ret1 rfl rfl ?_
    exact ⟨_, _, rfl, ⟨⟨_, rfl, ColI.at' hx11 hk (by assumption)⟩, ⟨_, rfl⟩⟩, hS13⟩
   ·
    have hc14b := hc14
    try simp only [decide_eq_true_eq, decide_eq_false_iff_not, Bool.not_eq_true', Bool.not_eq_false', Bool.and_eq_true, Bool.or_eq_true, Int.not_lt, Int.not_le, ne_eq, Decidable.not_not] at hc14
    refine wp_skip ?_
    refine hK8 _ _ ?_
    refine wp_region_lit ?_
    refine l_q rfl rfl (q_addx rfl rfl (by first | decide | omega) (by first | decide | omega)) ?_
    refine l_q rfl rfl (q_moveI rfl) ?_
    refine l_nil ?_
    refine hK4 _ _ (came ((i + 1)) (by repeat' (first | exact Agree.refl _ _ | refine Agree.up ?_ rfl | refine Agree.hav2 ?_ rfl | refine Agree.ups2 ?_ rfl)) (by repeat' (first | exact trivial | refine ⟨by first | rfl | exact int_succ _ | assumption, ?_⟩)) ?_)
    exact ⟨⟨hS13, (by show i + 1 ≤ t.cs.length; omega), cols_step hk hx11 (by assumption)⟩, by (show t.cs.length - (i + 1) < t.cs.length - i); omega⟩
  ·
   have hc7b := hc7
   try simp only [decide_eq_true_eq, decide_eq_false_iff_not, Bool.not_eq_true', Bool.not_eq_false', Bool.and_eq_true, Bool.or_eq_true, Int.not_lt, Int.not_le, ne_eq, Decidable.not_not] at hc7
   refine wp_exit ?_
   refine hK2 _ _ ?_
   refine wp_seq_k (fun K16 hK16 => ?_)
   refine wp_region_lit ?_
   refine l_q rfl rfl (q_assignI rfl) ?_
   refine l_nil ?_
   refine hK16 _ _ ?_
   refine wp_ret ?_
   refine c_ret1 rfl rfl ?_
   have hii : i = t.cs.length := by omega
   rw [hii] at hk
   exact ⟨_, _, rfl, ⟨⟨_, rfl, ColI.end' hk⟩, ⟨_, rfl⟩⟩, hS4⟩

set_option maxHeartbeats 2000000 in
set_option maxRecDepth 100000 in
theorem cright_ok (t : Tb) (htn : Bytes t.nm) (htc : CsOk t.cs) (htb : VsOk t.bd) (nc nb : Nat) (hnc : t.cs.length = nc) (hnb : t.bd.length = nb) (hmc : nc ≤ 2000000) (hmb : nb ≤ 2000000) (ca ba : Option Addr) (cca cba : Nat) (hcl : nc ≤ cca) (w : World) (hCG : SlG (hw w) ca (List.flatMap cc t.cs)) (hBG : SlG (hw w) ba (List.flatMap vl t.bd)) : Calls Tryz.prog 17 #[.agg #[.string (bs t.nm), .slice ca nc cca, .int .i64 t.key, .int .i64 t.pt, .slice ba nb cba]] w (PostN w fun v G => ∃ c a, RtA t c a ∧ ErV c a v G) := by
 have hS := St.start w
 subst hnc hnb
 refine c_enter Tryz.func17 rfl rfl rfl ?_
 refine wp_seq_k (fun K1 hK1 => ?_)
 refine wp_region_lit ?_
 refine l_e rfl (fun K hK => ?_)
 refine e_boxA hS rfl (fun b2 w2 (hS2 : St _ _ [.blk b2 (.cells #[.string (bs t.nm), .slice ca t.cs.length cca, .int .i64 t.key, .int .i64 t.pt, .slice ba t.bd.length cba] 25)] _) => ?_)
 clear hS
 refine hK _ _ ?_; clear hK K
 refine l_q rfl rfl (q_assign rfl) ?_
 refine l_nil ?_
 refine hK1 _ _ ?_
 refine wp_seq_k (fun K3 hK3 => ?_)
 refine wp_region_lit ?_
 refine l_q rfl rfl (q_fieldAddr (ft := 22) (o := 1) rfl (by kernel_rfl)) ?_
 refine l_q rfl rfl (q_load1 rfl (by kernel_rfl) (hS2.cell (i := 0) rfl rfl)) ?_
 refine l_q rfl rfl (q_lenSl (e := 47) rfl (by kernel_rfl)) ?_
 refine l_q rfl rfl (q_assignI rfl) ?_
 refine l_nil ?_
 refine hK3 _ _ ?_
 refine wp_seq_k (fun K4 hK4 => ?_)
 refine wp_block ?_
 refine wp_seq_k (fun K5 hK5 => ?_)
 refine wp_seq_k (fun K6 hK6 => ?_)
 refine wp_region_lit ?_
 refine l_q rfl rfl (q_fieldAddr (ft := 9) (o := 0) rfl (by kernel_rfl)) ?_
 refine l_q rfl rfl (q_load1 rfl (by kernel_rfl) (hS2.cell (i := 0) rfl rfl)) ?_
 refine l_e rfl (fun K hK => ?_)
 refine e_call (by kernel_rfl) (name_ok t.nm htn _) rfl (after_R hS2 (fun v7 w7 hv7 hS7 => ?_))
 clear hS2
 obtain rfl := hv7
 refine hK _ _ ?_; clear hK K
 refine l_q rfl rfl (q_not rfl) ?_
 refine l_q rfl rfl (q_assignB rfl) ?_
 refine l_nil ?_
 refine hK6 _ _ ?_
 refine c_cond rfl (fun hc8 => ?_) (fun hc8 => ?_)
 ·
  have hc8b := hc8
  try simp only [decide_eq_true_eq, decide_eq_false_iff_not, Bool.not_eq_true', Bool.not_eq_false', Bool.and_eq_true, Bool.or_eq_true, Int.not_lt, Int.not_le, ne_eq, Decidable.not_not] at hc8
  refine wp_skip ?_
  refine hK5 _ _ ?_
  refine c_condT rfl hc8b ?_
  refine wp_seq_k (fun K10 hK10 => ?_)
  refine wp_region_lit ?_
  refine l_e rfl (fun K hK => ?_)
  refine e_call (by kernel_rfl) (fnew_ok (182 : Int) (-1 : Int) rfl _) rfl (after_N hS7 (fun v11 G11 w11 hv11 hS11 => ?_))
  clear hS7
  obtain ⟨b11, rfl, rfl⟩ := hv11
  have hS12 : St _ _ [.blk b11 (.cells #[.int .i64 (182 : Int), .int .i64 (-1 : Int), _] 69), _] _ := hS11; clear hS11
  refine hK _ _ ?_; clear hK K
  refine l_q rfl rfl (q_assign rfl) ?_
  refine l_nil ?_
  refine hK10 _ _ ?_
  refine wp_ret ?_
  refine c_ret1 rfl rfl ?_
  have hS13 : St _ _ [_] _ := hS12.only 1; clear hS12
  exact ⟨_, _, rfl, ⟨_, _, (head_no (fun ⟨g1, g2, g3, g4, g5, g6, g7, g8, g9, g10⟩ => by first | omega | exact absurd g1 (pB_no.1 (by assumption)) | exact absurd g10 (pB_no.1 (by assumption)) | exact hqt (by assumption) ⟨g1, g2, g3, g4, g5, g6, g7, g8, g9, g10⟩)), ErV.yes (by decide)⟩, hS13⟩
 ·
  have hc8b := hc8
  try simp only [decide_eq_true_eq, decide_eq_false_iff_not, Bool.not_eq_true', Bool.not_eq_false', Bool.and_eq_true, Bool.or_eq_true, Int.not_lt, Int.not_le, ne_eq, Decidable.not_not] at hc8
  refine wp_seq_k (fun K14 hK14 => ?_)
  refine wp_region_lit ?_
  refine l_q rfl rfl (q_moveI rfl) ?_
  refine l_q rfl rfl (q_lss rfl rfl) ?_
  refine l_q rfl rfl (q_assignB rfl) ?_
  refine l_nil ?_
  refine hK14 _ _ ?_
  refine c_cond rfl (fun hc15 => ?_) (fun hc15 => ?_)
  ·
   have hc15b := hc15
   try simp only [decide_eq_true_eq, decide_eq_false_iff_not, Bool.not_eq_true', Bool.not_eq_false', Bool.and_eq_true, Bool.or_eq_true, Int.not_lt, Int.not_le, ne_eq, Decidable.not_not] at hc15
   refine wp_skip ?_
   refine hK5 _ _ ?_
   refine c_condT rfl hc15b ?_
   refine wp_seq_k (fun K17 hK17 => ?_)
   refine wp_region_lit ?_
   refine l_e rfl (fun K hK => ?_)
   refine e_call (by kernel_rfl) (fnew_ok (182 : Int) (-1 : Int) rfl _) rfl (after_N hS7 (fun v18 G18 w18 hv18 hS18 => ?_))
   clear hS7
   obtain ⟨b18, rfl, rfl⟩ := hv18
   have hS19 : St _ _ [.blk b18 (.cells #[.int .i64 (182 : Int), .int .i64 (-1 : Int), _] 69), _] _ := hS18; clear hS18
   refine hK _ _ ?_; clear hK K
   refine l_q rfl rfl (q_assign rfl) ?_
   refine l_nil ?_
   refine hK17 _ _ ?_
   refine wp_ret ?_
   refine c_ret1 rfl rfl ?_
   have hS20 : St _ _ [_] _ := hS19.only 1; clear hS19
   exact ⟨_, _, rfl, ⟨_, _, (head_no (fun ⟨g1, g2, g3, g4, g5, g6, g7, g8, g9, g10⟩ => by first | omega | exact absurd g1 (pB_no.1 (by assumption)) | exact absurd g10 (pB_no.1 (by assumption)) | exact hqt (by assumption) ⟨g1, g2, g3, g4, g5, g6, g7, g8, g9, g10⟩)), ErV.yes (by decide)⟩, hS20⟩
  ·
   have hc15b := hc15
   try simp only [decide_eq_true_eq, decide_eq_false_iff_not, Bool.not_eq_true', Bool.not_eq_false', Bool.and_eq_true, Bool.or_eq_true, Int.not_lt, Int.not_le, ne_eq, Decidable.not_not] at hc15
   refine wp_seq_k (fun K21 hK21 => ?_)
   refine wp_region_lit ?_
   refine l_q rfl rfl (q_moveI rfl) ?_
   refine l_q rfl rfl (q_gtr rfl rfl) ?_
   refine l_q rfl rfl (q_assignB rfl) ?_
   refine l_nil ?_
   refine hK21 _ _ ?_
   refine c_cond rfl (fun hc22 => ?_) (fun hc22 => ?_)
   ·
    have hc22b := hc22
    try simp only [decide_eq_true_eq, decide_eq_false_iff_not, Bool.not_eq_true', Bool.not_eq_false', Bool.and_eq_true, Bool.or_eq_true, Int.not_lt, Int.not_le, ne_eq, Decidable.not_not] at hc22
    refine wp_skip ?_
    refine hK5 _ _ ?_
    refine c_condT rfl hc22b ?_
    refine wp_seq_k (fun K24 hK24 => ?_)
    refine wp_region_lit ?_
    refine l_e rfl (fun K hK => ?_)
    refine e_call (by kernel_rfl) (fnew_ok (182 : Int) (-1 : Int) rfl _) rfl (after_N hS7 (fun v25 G25 w25 hv25 hS25 => ?_))
    clear hS7
    obtain ⟨b25, rfl, rfl⟩ := hv25
    have hS26 : St _ _ [.blk b25 (.cells #[.int .i64 (182 : Int), .int .i64 (-1 : Int), _] 69), _] _ := hS25; clear hS25
    refine hK _ _ ?_; clear hK K
    refine l_q rfl rfl (q_assign rfl) ?_
    refine l_nil ?_
    refine hK24 _ _ ?_
    refine wp_ret ?_
    refine c_ret1 rfl rfl ?_
    have hS27 : St _ _ [_] _ := hS26.only 1; clear hS26
    exact ⟨_, _, rfl, ⟨_, _, (head_no (fun ⟨g1, g2, g3, g4, g5, g6, g7, g8, g9, g10⟩ => by first | omega | exact absurd g1 (pB_no.1 (by assumption)) | exact absurd g10 (pB_no.1 (by assumption)) | exact hqt (by assumption) ⟨g1, g2, g3, g4, g5, g6, g7, g8, g9, g10⟩)), ErV.yes (by decide)⟩, hS27⟩
   ·
    have hc22b := hc22
    try simp only [decide_eq_true_eq, decide_eq_false_iff_not, Bool.not_eq_true', Bool.not_eq_false', Bool.and_eq_true, Bool.or_eq_true, Int.not_lt, Int.not_le, ne_eq, Decidable.not_not] at hc22
    refine wp_seq_k (fun K28 hK28 => ?_)
    refine wp_region_lit ?_
    refine l_q rfl rfl (q_fieldAddr (ft := 3) (o := 2) rfl (by kernel_rfl)) ?_
    refine l_q rfl rfl (q_load1 rfl (by kernel_rfl) (hS7.cell (i := 0) rfl rfl)) ?_
    refine l_q rfl rfl (q_lss rfl rfl) ?_
    refine l_q rfl rfl (q_assignB rfl) ?_
    refine l_nil ?_
    refine hK28 _ _ ?_
    refine c_cond rfl (fun hc29 => ?_) (fun hc29 => ?_)
    ·
     have hc29b := hc29
     try simp only [decide_eq_true_eq, decide_eq_false_iff_not, Bool.not_eq_true', Bool.not_eq_false', Bool.and_eq_true, Bool.or_eq_true, Int.not_lt, Int.not_le, ne_eq, Decidable.not_not] at hc29
     refine wp_skip ?_
     refine hK5 _ _ ?_
     refine c_condT rfl hc29b ?_
     refine wp_seq_k (fun K31 hK31 => ?_)
     refine wp_region_lit ?_
     refine l_e rfl (fun K hK => ?_)
     refine e_call (by kernel_rfl) (fnew_ok (182 : Int) (-1 : Int) rfl _) rfl (after_N hS7 (fun v32 G32 w32 hv32 hS32 => ?_))
     clear hS7
     obtain ⟨b32, rfl, rfl⟩ := hv32
     have hS33 : St _ _ [.blk b32 (.cells #[.int .i64 (182 : Int), .int .i64 (-1 : Int), _] 69), _] _ := hS32; clear hS32
     refine hK _ _ ?_; clear hK K
     refine l_q rfl rfl (q_assign rfl) ?_
     refine l_nil ?_
     refine hK31 _ _ ?_
     refine wp_ret ?_
     refine c_ret1 rfl rfl ?_
     have hS34 : St _ _ [_] _ := hS33.only 1; clear hS33
     exact ⟨_, _, rfl, ⟨_, _, (head_no (fun ⟨g1, g2, g3, g4, g5, g6, g7, g8, g9, g10⟩ => by first | omega | exact absurd g1 (pB_no.1 (by assumption)) | exact absurd g10 (pB_no.1 (by assumption)) | exact hqt (by assumption) ⟨g1, g2, g3, g4, g5, g6, g7, g8, g9, g10⟩)), ErV.yes (by decide)⟩, hS34⟩
    ·
     have hc29b := hc29
     try simp only [decide_eq_true_eq, decide_eq_false_iff_not, Bool.not_eq_true', Bool.not_eq_false', Bool.and_eq_true, Bool.or_eq_true, Int.not_lt, Int.not_le, ne_eq, Decidable.not_not] at hc29
     refine wp_region_lit ?_
     refine l_q rfl rfl (q_fieldAddr (ft := 3) (o := 2) rfl (by kernel_rfl)) ?_
     refine l_q rfl rfl (q_load1 rfl (by kernel_rfl) (hS7.cell (i := 0) rfl rfl)) ?_
     refine l_q rfl rfl (q_moveI rfl) ?_
     refine l_q rfl rfl (q_gtr rfl rfl) ?_
     refine l_q rfl rfl (q_assignB rfl) ?_
     refine l_nil ?_
     refine hK5 _ _ ?_
     refine c_cond rfl (fun hc35 => ?_) (fun hc35 => ?_)
     ·
      have hc35b := hc35
      try simp only [decide_eq_true_eq, decide_eq_false_iff_not, Bool.not_eq_true', Bool.not_eq_false', Bool.and_eq_true, Bool.or_eq_true, Int.not_lt, Int.not_le, ne_eq, Decidable.not_not] at hc35
      refine wp_seq_k (fun K36 hK36 => ?_)
      refine wp_region_lit ?_
      refine l_e rfl (fun K hK => ?_)
      refine e_call (by kernel_rfl) (fnew_ok (182 : Int) (-1 : Int) rfl _) rfl (after_N hS7 (fun v37 G37 w37 hv37 hS37 => ?_))
      clear hS7
      obtain ⟨b37, rfl, rfl⟩ := hv37
      have hS38 : St _ _ [.blk b37 (.cells #[.int .i64 (182 : Int), .int .i64 (-1 : Int), _] 69), _] _ := hS37; clear hS37
      refine hK _ _ ?_; clear hK K
      refine l_q rfl rfl (q_assign rfl) ?_
      refine l_nil ?_
      refine hK36 _ _ ?_
      refine wp_ret ?_
      refine c_ret1 rfl rfl ?_
      have hS39 : St _ _ [_] _ := hS38.only 1; clear hS38
      exact ⟨_, _, rfl, ⟨_, _, (head_no (fun ⟨g1, g2, g3, g4, g5, g6, g7, g8, g9, g10⟩ => by first | omega | exact absurd g1 (pB_no.1 (by assumption)) | exact absurd g10 (pB_no.1 (by assumption)) | exact hqt (by assumption) ⟨g1, g2, g3, g4, g5, g6, g7, g8, g9, g10⟩)), ErV.yes (by decide)⟩, hS39⟩
     ·
      have hc35b := hc35
      try simp only [decide_eq_true_eq, decide_eq_false_iff_not, Bool.not_eq_true', Bool.not_eq_false', Bool.and_eq_true, Bool.or_eq_true, Int.not_lt, Int.not_le, ne_eq, Decidable.not_not] at hc35
      refine wp_seq_k (fun K40 hK40 => ?_)
      refine wp_seq_k (fun K41 hK41 => ?_)
      refine wp_region_lit ?_
      refine l_q rfl rfl (q_fieldAddr (ft := 3) (o := 3) rfl (by kernel_rfl)) ?_
      refine l_q rfl rfl (q_load1 rfl (by kernel_rfl) (hS7.cell (i := 0) rfl rfl)) ?_
      refine l_q rfl rfl (q_lss rfl rfl) ?_
      refine l_q rfl rfl (q_assignB rfl) ?_
      refine l_nil ?_
      refine hK41 _ _ ?_
      refine c_cond rfl (fun hc42 => ?_) (fun hc42 => ?_)
      ·
       have hc42b := hc42
       try simp only [decide_eq_true_eq, decide_eq_false_iff_not, Bool.not_eq_true', Bool.not_eq_false', Bool.and_eq_true, Bool.or_eq_true, Int.not_lt, Int.not_le, ne_eq, Decidable.not_not] at hc42
       refine wp_skip ?_
       refine hK40 _ _ ?_
       refine c_condT rfl hc42b ?_
       refine wp_seq_k (fun K44 hK44 => ?_)
       refine wp_region_lit ?_
       refine l_e rfl (fun K hK => ?_)
       refine e_call (by kernel_rfl) (fnew_ok (182 : Int) (-1 : Int) rfl _) rfl (after_N hS7 (fun v45 G45 w45 hv45 hS45 => ?_))
       clear hS7
       obtain ⟨b45, rfl, rfl⟩ := hv45
       have hS46 : St _ _ [.blk b45 (.cells #[.int .i64 (182 : Int), .int .i64 (-1 : Int), _] 69), _] _ := hS45; clear hS45
       refine hK _ _ ?_; clear hK K
       refine l_q rfl rfl (q_assign rfl) ?_
       refine l_nil ?_
       refine hK44 _ _ ?_
       refine wp_ret ?_
       refine c_ret1 rfl rfl ?_
       have hS47 : St _ _ [_] _ := hS46.only 1; clear hS46
       exact ⟨_, _, rfl, ⟨_, _, (head_no (fun ⟨g1, g2, g3, g4, g5, g6, g7, g8, g9, g10⟩ => by first | omega | exact absurd g1 (pB_no.1 (by assumption)) | exact absurd g10 (pB_no.1 (by assumption)) | exact hqt (by assumption) ⟨g1, g2, g3, g4, g5, g6, g7, g8, g9, g10⟩)), ErV.yes (by decide)⟩, hS47⟩
      ·
       have hc42b := hc42
       try simp only [decide_eq_true_eq, decide_eq_false_iff_not, Bool.not_eq_true', Bool.not_eq_false', Bool.and_eq_true, Bool.or_eq_true, Int.not_lt, Int.not_le, ne_eq, Decidable.not_not] at hc42
       refine wp_seq_k (fun K48 hK48 => ?_)
       refine wp_region_lit ?_
       refine l_q rfl rfl (q_fieldAddr (ft := 3) (o := 3) rfl (by kernel_rfl)) ?_
       refine l_q rfl rfl (q_load1 rfl (by kernel_rfl) (hS7.cell (i := 0) rfl rfl)) ?_
       refine l_q rfl rfl (q_gtr rfl rfl) ?_
       refine l_q rfl rfl (q_assignB rfl) ?_
       refine l_nil ?_
       refine hK48 _ _ ?_
       refine c_cond rfl (fun hc49 => ?_) (fun hc49 => ?_)
       ·
        have hc49b := hc49
        try simp only [decide_eq_true_eq, decide_eq_false_iff_not, Bool.not_eq_true', Bool.not_eq_false', Bool.and_eq_true, Bool.or_eq_true, Int.not_lt, Int.not_le, ne_eq, Decidable.not_not] at hc49
        refine wp_skip ?_
        refine hK40 _ _ ?_
        refine c_condT rfl hc49b ?_
        refine wp_seq_k (fun K51 hK51 => ?_)
        refine wp_region_lit ?_
        refine l_e rfl (fun K hK => ?_)
        refine e_call (by kernel_rfl) (fnew_ok (182 : Int) (-1 : Int) rfl _) rfl (after_N hS7 (fun v52 G52 w52 hv52 hS52 => ?_))
        clear hS7
        obtain ⟨b52, rfl, rfl⟩ := hv52
        have hS53 : St _ _ [.blk b52 (.cells #[.int .i64 (182 : Int), .int .i64 (-1 : Int), _] 69), _] _ := hS52; clear hS52
        refine hK _ _ ?_; clear hK K
        refine l_q rfl rfl (q_assign rfl) ?_
        refine l_nil ?_
        refine hK51 _ _ ?_
        refine wp_ret ?_
        refine c_ret1 rfl rfl ?_
        have hS54 : St _ _ [_] _ := hS53.only 1; clear hS53
        exact ⟨_, _, rfl, ⟨_, _, (head_no (fun ⟨g1, g2, g3, g4, g5, g6, g7, g8, g9, g10⟩ => by first | omega | exact absurd g1 (pB_no.1 (by assumption)) | exact absurd g10 (pB_no.1 (by assumption)) | exact hqt (by assumption) ⟨g1, g2, g3, g4, g5, g6, g7, g8, g9, g10⟩)), ErV.yes (by decide)⟩, hS54⟩
       ·
        have hc49b := hc49
        try simp only [decide_eq_true_eq, decide_eq_false_iff_not, Bool.not_eq_true', Bool.not_eq_false', Bool.and_eq_true, Bool.or_eq_true, Int.not_lt, Int.not_le, ne_eq, Decidable.not_not] at hc49
        refine wp_seq_k (fun K55 hK55 => ?_)
        refine wp_region_lit ?_
        refine l_q rfl rfl (q_fieldAddr (ft := 23) (o := 4) rfl (by kernel_rfl)) ?_
        refine l_q rfl rfl (q_load1 rfl (by kernel_rfl) (hS7.cell (i := 0) rfl rfl)) ?_
        refine l_q rfl rfl (q_lenSl (e := 59) rfl (by kernel_rfl)) ?_
        refine l_q rfl rfl (q_geq rfl rfl) ?_
        refine l_q rfl rfl (q_assignB rfl) ?_
        refine l_nil ?_
        refine hK55 _ _ ?_
        refine c_cond rfl (fun hc56 => ?_) (fun hc56 => ?_)
        ·
         have hc56b := hc56
         try simp only [decide_eq_true_eq, decide_eq_false_iff_not, Bool.not_eq_true', Bool.not_eq_false', Bool.and_eq_true, Bool.or_eq_true, Int.not_lt, Int.not_le, ne_eq, Decidable.not_not] at hc56
         refine wp_skip ?_
         refine hK40 _ _ ?_
         refine c_condT rfl hc56b ?_
         refine wp_seq_k (fun K58 hK58 => ?_)
         refine wp_region_lit ?_
         refine l_e rfl (fun K hK => ?_)
         refine e_call (by kernel_rfl) (fnew_ok (182 : Int) (-1 : Int) rfl _) rfl (after_N hS7 (fun v59 G59 w59 hv59 hS59 => ?_))
         clear hS7
         obtain ⟨b59, rfl, rfl⟩ := hv59
         have hS60 : St _ _ [.blk b59 (.cells #[.int .i64 (182 : Int), .int .i64 (-1 : Int), _] 69), _] _ := hS59; clear hS59
         refine hK _ _ ?_; clear hK K
         refine l_q rfl rfl (q_assign rfl) ?_
         refine l_nil ?_
         refine hK58 _ _ ?_
         refine wp_ret ?_
         refine c_ret1 rfl rfl ?_
         have hS61 : St _ _ [_] _ := hS60.only 1; clear hS60
         exact ⟨_, _, rfl, ⟨_, _, (head_no (fun ⟨g1, g2, g3, g4, g5, g6, g7, g8, g9, g10⟩ => by first | omega | exact absurd g1 (pB_no.1 (by assumption)) | exact absurd g10 (pB_no.1 (by assumption)) | exact hqt (by assumption) ⟨g1, g2, g3, g4, g5, g6, g7, g8, g9, g10⟩)), ErV.yes (by decide)⟩, hS61⟩
        ·
         have hc56b := hc56
         try simp only [decide_eq_true_eq, decide_eq_false_iff_not, Bool.not_eq_true', Bool.not_eq_false', Bool.and_eq_true, Bool.or_eq_true, Int.not_lt, Int.not_le, ne_eq, Decidable.not_not] at hc56
         refine c_cut (τ := Bool) [(26, 26), (37, 45)] (fun x => (fun (bq : Bool) => [(26, .bool bq)]) x) (fun x w' => (fun (bq : Bool) => St w (fun _ => False) [.blk b2 (.cells #[.string (bs t.nm), .slice ca t.cs.length cca, .int .i64 t.key, .int .i64 t.pt, .slice ba t.bd.length cba] 25)] w' ∧ (bq = true → ¬HeadP t) ∧ (bq = false → 0 < t.pt → t.bd.length = 0)) x) (fun K63 hK63 => ?_) (fun bq j63 w63 hJ63 => ?_)
         ·
          refine wp_region_lit ?_
          refine l_q rfl rfl (q_fieldAddr (ft := 3) (o := 3) rfl (by kernel_rfl)) ?_
          refine l_q rfl rfl (q_load1 rfl (by kernel_rfl) (hS7.cell (i := 0) rfl rfl)) ?_
          refine l_q rfl rfl (q_gtr rfl rfl) ?_
          refine l_q rfl rfl (q_moveB rfl) ?_
          refine g_splitL (t := 40) rfl (fun hg64 => ?_) (fun hg64 => ?_)
          ·
           have hg64b := hg64
           try simp only [decide_eq_true_eq, decide_eq_false_iff_not, Bool.not_eq_true', Bool.not_eq_false', Bool.and_eq_true, Bool.or_eq_true, Int.not_lt, Int.not_le, ne_eq, Decidable.not_not] at hg64
           refine l_on rfl rfl hg64b ?_
           refine l_q rfl rfl (q_fieldAddr (ft := 23) (o := 4) rfl (by kernel_rfl)) ?_
           refine l_on rfl rfl hg64b ?_
           refine l_q rfl rfl (q_load1 rfl (by kernel_rfl) (hS7.cell (i := 0) rfl rfl)) ?_
           refine l_on rfl rfl hg64b ?_
           refine l_q rfl rfl (q_lenSl (e := 59) rfl (by kernel_rfl)) ?_
           refine l_on rfl rfl hg64b ?_
           refine l_q rfl rfl (q_gtr rfl rfl) ?_
           by_cases hb0 : 0 < t.bd.length
           ·
            refine l_q rfl rfl (q_pickT rfl hg64b rfl) ?_
            refine l_q rfl rfl (q_assignB rfl) ?_
            refine l_nil ?_
            refine hK63 _ _ (came (true) (by repeat' (first | exact Agree.refl _ _ | refine Agree.up ?_ rfl | refine Agree.hav2 ?_ rfl | refine Agree.ups2 ?_ rfl)) (by refine ⟨congrArg Value.bool (decide_eq_true (by omega)), trivial⟩) ?_)
            exact ⟨hS7, (fun _ => fun ⟨g1, g2, g3, g4, g5, g6, g7, g8, g9, g10⟩ => by omega), fun h => by cases h⟩
           ·
            refine l_q rfl rfl (q_pickT rfl hg64b rfl) ?_
            refine l_q rfl rfl (q_assignB rfl) ?_
            refine l_nil ?_
            refine hK63 _ _ (came (false) (by repeat' (first | exact Agree.refl _ _ | refine Agree.up ?_ rfl | refine Agree.hav2 ?_ rfl | refine Agree.ups2 ?_ rfl)) (by refine ⟨congrArg Value.bool (decide_eq_false (by omega)), trivial⟩) ?_)
            exact ⟨hS7, (fun h => by cases h), fun _ => by omega⟩
          ·
           have hg64b := hg64
           try simp only [decide_eq_true_eq, decide_eq_false_iff_not, Bool.not_eq_true', Bool.not_eq_false', Bool.and_eq_true, Bool.or_eq_true, Int.not_lt, Int.not_le, ne_eq, Decidable.not_not] at hg64
           refine l_off rfl rfl rfl hg64b ?_
           refine l_off rfl rfl rfl hg64b ?_
           refine l_off rfl rfl rfl hg64b ?_
           refine l_off rfl rfl rfl hg64b ?_
           refine l_q rfl rfl (q_pickF rfl hg64b rfl) ?_
           refine l_q rfl rfl (q_assignB rfl) ?_
           refine l_nil ?_
           refine hK63 _ _ (came (false) (by repeat' (first | exact Agree.refl _ _ | refine Agree.up ?_ rfl | refine Agree.hav2 ?_ rfl | refine Agree.ups2 ?_ rfl)) (by refine ⟨congrArg Value.bool rfl, trivial⟩) ?_)
           exact ⟨hS7, (fun h => by cases h), fun _ => by omega⟩
         ·
          obtain ⟨hS63, hqt, hqf⟩ := hJ63
          try dsimp only at hS63 hqt hqf ⊢
          refine c_cond rfl (fun hc65 => ?_) (fun hc65 => ?_)
          ·
           have hc65b := hc65
           try simp only [decide_eq_true_eq, decide_eq_false_iff_not, Bool.not_eq_true', Bool.not_eq_false', Bool.and_eq_true, Bool.or_eq_true, Int.not_lt, Int.not_le, ne_eq, Decidable.not_not] at hc65
           refine wp_skip ?_
           refine hK40 _ _ ?_
           refine c_condT rfl hc65b ?_
           refine wp_seq_k (fun K67 hK67 => ?_)
           refine wp_region_lit ?_
           refine l_e rfl (fun K hK => ?_)
           refine e_call (by kernel_rfl) (fnew_ok (182 : Int) (-1 : Int) rfl _) rfl (after_N hS63 (fun v68 G68 w68 hv68 hS68 => ?_))
           clear hS63
           obtain ⟨b68, rfl, rfl⟩ := hv68
           have hS69 : St _ _ [.blk b68 (.cells #[.int .i64 (182 : Int), .int .i64 (-1 : Int), _] 69), _] _ := hS68; clear hS68
           refine hK _ _ ?_; clear hK K
           refine l_q rfl rfl (q_assign rfl) ?_
           refine l_nil ?_
           refine hK67 _ _ ?_
           refine wp_ret ?_
           refine c_ret1 rfl rfl ?_
           have hS70 : St _ _ [_] _ := hS69.only 1; clear hS69
           exact ⟨_, _, rfl, ⟨_, _, (head_no (fun ⟨g1, g2, g3, g4, g5, g6, g7, g8, g9, g10⟩ => by first | omega | exact absurd g1 (pB_no.1 (by assumption)) | exact absurd g10 (pB_no.1 (by assumption)) | exact hqt (by assumption) ⟨g1, g2, g3, g4, g5, g6, g7, g8, g9, g10⟩)), ErV.yes (by decide)⟩, hS70⟩
          ·
           have hc65b := hc65
           try simp only [decide_eq_true_eq, decide_eq_false_iff_not, Bool.not_eq_true', Bool.not_eq_false', Bool.and_eq_true, Bool.or_eq_true, Int.not_lt, Int.not_le, ne_eq, Decidable.not_not] at hc65
           have hq9 := hqf (by assumption)
           refine wp_region_lit ?_
           refine l_q rfl rfl (q_loadA (m := 5) rfl (by kernel_rfl) (by kernel_rfl) (hS63.blk (i := 0) rfl) rfl rfl) ?_
           refine l_e rfl (fun K hK => ?_)
           refine e_call (by kernel_rfl) (bounds_ok t htn htc htb t.cs.length t.bd.length (by first | omega | (simp only [lls] <;> omega)) (by first | omega | (simp only [lls] <;> omega)) (by first | omega | (simp only [lls] <;> omega)) (by first | omega | (simp only [lls] <;> omega)) (by first | omega | (simp only [lls] <;> omega)) _ _ _ _ _ (hCG.mono hS63.base) (hBG.mono hS63.base)) rfl (after_R hS63 (fun v71 w71 hv71 hS71 => ?_))
           clear hS63
           obtain rfl := hv71
           refine hK _ _ ?_; clear hK K
           refine l_q rfl rfl (q_not rfl) ?_
           refine l_q rfl rfl (q_assignB rfl) ?_
           refine l_nil ?_
           refine hK40 _ _ ?_
           refine c_cond rfl (fun hc72 => ?_) (fun hc72 => ?_)
           ·
            have hc72b := hc72
            try simp only [decide_eq_true_eq, decide_eq_false_iff_not, Bool.not_eq_true', Bool.not_eq_false', Bool.and_eq_true, Bool.or_eq_true, Int.not_lt, Int.not_le, ne_eq, Decidable.not_not] at hc72
            refine wp_seq_k (fun K73 hK73 => ?_)
            refine wp_region_lit ?_
            refine l_e rfl (fun K hK => ?_)
            refine e_call (by kernel_rfl) (fnew_ok (182 : Int) (-1 : Int) rfl _) rfl (after_N hS71 (fun v74 G74 w74 hv74 hS74 => ?_))
            clear hS71
            obtain ⟨b74, rfl, rfl⟩ := hv74
            have hS75 : St _ _ [.blk b74 (.cells #[.int .i64 (182 : Int), .int .i64 (-1 : Int), _] 69), _] _ := hS74; clear hS74
            refine hK _ _ ?_; clear hK K
            refine l_q rfl rfl (q_assign rfl) ?_
            refine l_nil ?_
            refine hK73 _ _ ?_
            refine wp_ret ?_
            refine c_ret1 rfl rfl ?_
            have hS76 : St _ _ [_] _ := hS75.only 1; clear hS75
            exact ⟨_, _, rfl, ⟨_, _, (head_no (fun ⟨g1, g2, g3, g4, g5, g6, g7, g8, g9, g10⟩ => by first | omega | exact absurd g1 (pB_no.1 (by assumption)) | exact absurd g10 (pB_no.1 (by assumption)) | exact hqt (by assumption) ⟨g1, g2, g3, g4, g5, g6, g7, g8, g9, g10⟩)), ErV.yes (by decide)⟩, hS76⟩
           ·
            have hc72b := hc72
            try simp only [decide_eq_true_eq, decide_eq_false_iff_not, Bool.not_eq_true', Bool.not_eq_false', Bool.and_eq_true, Bool.or_eq_true, Int.not_lt, Int.not_le, ne_eq, Decidable.not_not] at hc72
            refine wp_skip ?_
            refine hK4 _ _ ?_
            refine wp_seq_k (fun K77 hK77 => ?_)
            have hH : HeadP t := ⟨pB_iff.1 (by assumption), by omega, by omega, by omega, by omega, by omega, by omega, by omega, by omega, pB_iff.1 (by assumption)⟩
            refine wp_region_lit ?_
            refine l_e rfl (fun K hK => ?_)
            refine e_alloc (zv := .int .i64 0) hS71 (by kernel_rfl) (fun b78 w78 (hS78 : St _ _ [.blk b78 (.cells #[.int .i64 (0 : Int)] 3), _] _) => ?_)
            clear hS71
            refine hK _ _ ?_; clear hK K
            refine l_e rfl (fun K hK => ?_)
            refine e_store1 hS78 rfl rfl (by kernel_rfl) (by first | rfl | assumption) (i := 0) rfl rfl (fun w79 (hS79 : St _ _ [_, _] _) => ?_)
            clear hS78
            refine hK _ _ ?_; clear hK K
            refine l_nil ?_
            refine hK77 _ _ ?_
            refine wp_seq_k (fun K80 hK80 => ?_)
            refine wp_region_lit ?_
            refine l_q rfl rfl (q_fieldAddr (ft := 22) (o := 1) rfl (by kernel_rfl)) ?_
            refine l_q rfl rfl (q_load1 rfl (by kernel_rfl) (hS79.cell (i := 1) rfl rfl)) ?_
            refine l_q rfl rfl (q_makeFunc) ?_
            refine l_e rfl (fun K hK => ?_)
            have hS82 := hS79.fr1; clear hS79
            refine e_call (by kernel_rfl) (cidx_ok t htn htc htb hmc cca hcl b2 b78 _ _ _ _ _ (St.rogB (Γ1 := [_, _]) hS82) hCG (St.begin (Γ := [_, _]) hS82)) rfl (after_M (Γ1 := [_, _]) hS82 (fun v81 G81 w81 hv81 hS81 => ?_))
            clear hS82
            obtain ⟨⟨r81, rfl, hI81⟩, ⟨z81, rfl⟩⟩ := hv81
            have hS83 : St _ _ [_, .blk b78 (.cells #[.int .i64 z81] 3)] _ := hS81; clear hS81
            refine hK _ _ ?_; clear hK K
            refine l_q rfl rfl (q_assignI rfl) ?_
            refine l_nil ?_
            refine hK80 _ _ ?_
            refine wp_seq_k (fun K84 hK84 => ?_)
            refine wp_seq_k (fun K85 hK85 => ?_)
            refine wp_region_lit ?_
            refine l_q rfl rfl (q_moveI rfl) ?_
            refine l_q rfl rfl (q_geq rfl rfl) ?_
            refine l_nil ?_
            refine hK85 _ _ ?_
            refine c_cond rfl (fun hc86 => ?_) (fun hc86 => ?_)
            ·
             have hc86b := hc86
             try simp only [decide_eq_true_eq, decide_eq_false_iff_not, Bool.not_eq_true', Bool.not_eq_false', Bool.and_eq_true, Bool.or_eq_true, Int.not_lt, Int.not_le, ne_eq, Decidable.not_not] at hc86
             refine wp_seq_k (fun K87 hK87 => ?_)
             refine wp_region_lit ?_
             refine l_q rfl rfl (q_moveI rfl) ?_
             refine l_e rfl (fun K hK => ?_)
             refine e_call (by kernel_rfl) (fnew_ok (182 : Int) r81 rfl _) rfl (after_N hS83 (fun v88 G88 w88 hv88 hS88 => ?_))
             clear hS83
             obtain ⟨b88, rfl, rfl⟩ := hv88
             have hS89 : St _ _ [.blk b88 (.cells #[.int .i64 (182 : Int), .int .i64 r81, _] 69), _, _] _ := hS88; clear hS88
             refine hK _ _ ?_; clear hK K
             refine l_q rfl rfl (q_assign rfl) ?_
             refine l_nil ?_
             refine hK87 _ _ ?_
             refine wp_ret ?_
             refine c_ret1 rfl rfl ?_
             have hS90 : St _ _ [_] _ := hS89.only 1; clear hS89
             exact ⟨_, _, rfl, ⟨_, _, (col_wrong hI81 hH (by omega)), ErV.yes (by decide)⟩, hS90⟩
            ·
             have hc86b := hc86
             try simp only [decide_eq_true_eq, decide_eq_false_iff_not, Bool.not_eq_true', Bool.not_eq_false', Bool.and_eq_true, Bool.or_eq_true, Int.not_lt, Int.not_le, ne_eq, Decidable.not_not] at hc86
             refine wp_skip ?_
             refine hK84 _ _ ?_
             refine wp_seq_k (fun K91 hK91 => ?_)
             refine wp_region_lit ?_
             refine l_q rfl rfl (q_assign rfl) ?_
             refine l_nil ?_
             refine hK91 _ _ ?_
             refine wp_ret ?_
             refine c_ret1 rfl rfl ?_
             have hS92 : St _ _ [] _ := hS83.only 0; clear hS83
             exact ⟨_, _, rfl, ⟨_, _, col_fine hI81 hH (by omega), ErV.no _⟩, hS92⟩

set_option maxRecDepth 100000 in
theorem short_ok (L : List Vl) (hL : VsOk L) (n : Nat) (hn : L.length = n) (al : Option Addr) (cl : Nat) (w : World) (hG : SlG (hw w) al (List.flatMap vl L)) : Calls Tryz.prog 26 #[.slice al n cl] w (PostR w fun v => v = .bool (pB (ShP L))) := by
 have hS := St.start w
 subst hn
 refine c_enter Tryz.func26 rfl rfl rfl ?_
 refine wp_seq_k (fun K1 hK1 => ?_)
 refine wp_region_lit ?_
 refine l_q rfl rfl (q_assignB rfl) ?_
 refine l_nil ?_
 refine hK1 _ _ ?_
 refine wp_seq_k (fun K2 hK2 => ?_)
 refine wp_seq_k (fun K3 hK3 => ?_)
 refine wp_region_lit ?_
 refine l_q rfl rfl (q_assignI rfl) ?_
 refine l_nil ?_
 refine hK3 _ _ ?_
 refine wp_block ?_
 refine c_loop (τ := Nat) [(2, 20)] (fun x => (fun (i : Nat) => [(3, .int .i64 (i : Int))]) x) (fun x w' => (fun (i : Nat) => St w (fun _ => False) [] w' ∧ i ≤ L.length ∧ i ≤ 100 ∧ (∀ j, j < i → ∀ v, L[j]? = some v → v.2.2.length ≤ 500)) x) (fun x => (fun (i : Nat) => L.length - i) x) (0) ?_ (by repeat' (first | exact trivial | refine ⟨by first | rfl | exact int_succ _ | assumption, ?_⟩)) (fun i j4 w4 hJ4 K4 hK4 => ?_)
 ·
  exact ⟨hS, Nat.zero_le _, Nat.zero_le _, fun j hj => by omega⟩
 ·
  obtain ⟨hS4, hi, hi2, hj⟩ := hJ4
  try dsimp only at hS4 hi hi2 hj ⊢
  refine wp_seq_k (fun K5 hK5 => ?_)
  refine wp_seq_k (fun K6 hK6 => ?_)
  refine wp_region_lit ?_
  refine l_q rfl rfl (q_moveI rfl) ?_
  refine l_q rfl rfl (q_moveS rfl) ?_
  refine l_q rfl rfl (q_lenSl (e := 59) rfl (by kernel_rfl)) ?_
  refine l_q rfl rfl (q_lss rfl rfl) ?_
  refine l_nil ?_
  refine hK6 _ _ ?_
  refine c_cond rfl (fun hc7 => ?_) (fun hc7 => ?_)
  ·
   have hc7b := hc7
   try simp only [decide_eq_true_eq, decide_eq_false_iff_not, Bool.not_eq_true', Bool.not_eq_false', Bool.and_eq_true, Bool.or_eq_true, Int.not_lt, Int.not_le, ne_eq, Decidable.not_not] at hc7
   refine wp_skip ?_
   refine hK5 _ _ ?_
   refine wp_seq_k (fun K8 hK8 => ?_)
   refine wp_block ?_
   refine wp_seq_k (fun K9 hK9 => ?_)
   refine wp_region_lit ?_
   refine l_q rfl rfl (q_moveI rfl) ?_
   refine l_q rfl rfl (q_eql rfl rfl) ?_
   refine l_q rfl rfl (q_moveB rfl) ?_
   refine g_splitL (t := 12) rfl (fun hg10 => ?_) (fun hg10 => ?_)
   ·
    have hg10b := hg10
    try simp only [decide_eq_true_eq, decide_eq_false_iff_not, Bool.not_eq_true', Bool.not_eq_false', Bool.and_eq_true, Bool.or_eq_true, Int.not_lt, Int.not_le, ne_eq, Decidable.not_not] at hg10
    refine l_off rfl rfl rfl hg10b ?_
    refine l_off rfl rfl rfl hg10b ?_
    refine l_off rfl rfl rfl hg10b ?_
    refine l_off rfl rfl rfl hg10b ?_
    refine l_off rfl rfl rfl hg10b ?_
    refine l_off rfl rfl rfl hg10b ?_
    refine l_off rfl rfl rfl hg10b ?_
    refine l_q rfl rfl (q_pickT rfl hg10b rfl) ?_
    refine l_nil ?_
    refine hK9 _ _ ?_
    refine c_condT rfl rfl ?_
    refine wp_seq_k (fun K12 hK12 => ?_)
    refine wp_region_lit ?_
    refine l_q rfl rfl (q_assignB rfl) ?_
    refine l_nil ?_
    refine hK12 _ _ ?_
    refine wp_ret ?_
    refine c_ret1 rfl rfl ?_
    exact ⟨_, rfl, congrArg Value.bool (sh_no1 (i := i) (by omega) (by omega)), hS4.drop⟩
   ·
    have hg10b := hg10
    try simp only [decide_eq_true_eq, decide_eq_false_iff_not, Bool.not_eq_true', Bool.not_eq_false', Bool.and_eq_true, Bool.or_eq_true, Int.not_lt, Int.not_le, ne_eq, Decidable.not_not] at hg10
    refine l_on rfl rfl hg10b ?_
    refine l_q rfl rfl (q_moveS rfl) ?_
    refine l_on rfl rfl hg10b ?_
    refine l_q rfl rfl (q_moveI rfl) ?_
    refine l_on rfl rfl hg10b ?_
    refine l_q rfl rfl (q_ixG (e := 59) (m := 3) (j := i) rfl rfl (by kernel_rfl) (by kernel_rfl) (by first | rfl | omega) (by omega) hG (by rw [rows_len (c := vl) (m := 3) (fun _ => rfl)]; first | omega | (simp only [lls] <;> omega))) ?_
    refine l_on rfl rfl hg10b ?_
    refine l_q rfl rfl (q_fieldG (ft := 9) (o := 2) rfl (by kernel_rfl)) ?_
    refine l_on rfl rfl hg10b ?_
    obtain ⟨x13, hx13⟩ : ∃ x, (L)[i]? = some x := ⟨_, List.getElem?_eq_getElem (by first | omega | (simp only [lls] <;> omega) | (simp <;> omega))⟩
    have hvb_x13 := (hL x13 (List.mem_of_getElem? hx13)).2
    refine l_q rfl rfl (q_load1 rfl (by kernel_rfl) (SlG.cell (hG.mono hS4.base) (Gle.refl _) (row_at hx13 (c := vl) (m := 3) (fun _ => rfl) (j := 2) rfl))) ?_
    refine l_on rfl rfl hg10b ?_
    refine l_q rfl rfl (q_lenStrB (l := x13.2.2) rfl (by kernel_rfl)) ?_
    refine l_on rfl rfl hg10b ?_
    refine l_q rfl rfl (q_gtr rfl rfl) ?_
    refine l_q rfl rfl (q_pickF rfl hg10b rfl) ?_
    refine l_nil ?_
    refine hK9 _ _ ?_
    refine c_cond rfl (fun hc14 => ?_) (fun hc14 => ?_)
    ·
     have hc14b := hc14
     try simp only [decide_eq_true_eq, decide_eq_false_iff_not, Bool.not_eq_true', Bool.not_eq_false', Bool.and_eq_true, Bool.or_eq_true, Int.not_lt, Int.not_le, ne_eq, Decidable.not_not] at hc14
     refine wp_seq_k (fun K15 hK15 => ?_)
     refine wp_region_lit ?_
     refine l_q rfl rfl (q_assignB rfl) ?_
     refine l_nil ?_
     refine hK15 _ _ ?_
     refine wp_ret ?_
     refine c_ret1 rfl rfl ?_
     exact ⟨_, rfl, congrArg Value.bool (sh_no hx13 (by omega)), hS4.drop⟩
    ·
     have hc14b := hc14
     try simp only [decide_eq_true_eq, decide_eq_false_iff_not, Bool.not_eq_true', Bool.not_eq_false', Bool.and_eq_true, Bool.or_eq_true, Int.not_lt, Int.not_le, ne_eq, Decidable.not_not] at hc14
     refine wp_skip ?_
     refine hK8 _ _ ?_
     refine wp_region_lit ?_
     refine l_q rfl rfl (q_moveI rfl) ?_
     refine l_q rfl rfl (q_addx rfl rfl (by first | decide | omega) (by first | decide | omega)) ?_
     refine l_q rfl rfl (q_assignI rfl) ?_
     refine l_nil ?_
     refine hK4 _ _ (came ((i + 1)) (by repeat' (first | exact Agree.refl _ _ | refine Agree.up ?_ rfl | refine Agree.hav2 ?_ rfl | refine Agree.ups2 ?_ rfl)) (by repeat' (first | exact trivial | refine ⟨by first | rfl | exact int_succ _ | assumption, ?_⟩)) ?_)
     exact ⟨⟨hS4, (by show i + 1 ≤ L.length; omega), (by show i + 1 ≤ 100; omega), q_next (Q := fun v => v.2.2.length ≤ 500) hj hx13 (by omega)⟩, by (show L.length - (i + 1) < L.length - i); omega⟩
  ·
   have hc7b := hc7
   try simp only [decide_eq_true_eq, decide_eq_false_iff_not, Bool.not_eq_true', Bool.not_eq_false', Bool.and_eq_true, Bool.or_eq_true, Int.not_lt, Int.not_le, ne_eq, Decidable.not_not] at hc7
   refine wp_exit ?_
   refine hK2 _ _ ?_
   refine wp_seq_k (fun K16 hK16 => ?_)
   refine wp_region_lit ?_
   refine l_q rfl rfl (q_assignB rfl) ?_
   refine l_nil ?_
   refine hK16 _ _ ?_
   refine wp_ret ?_
   refine c_ret1 rfl rfl ?_
   exact ⟨_, rfl, congrArg Value.bool (sh_yes (by omega) (fun j hj' v hv => hj j (by omega) v hv)), hS4.drop⟩

set_option maxRecDepth 100000 in
theorem few_ok (t : Tb) (htn : Bytes t.nm) (htc : CsOk t.cs) (htb : VsOk t.bd) (nc nb : Nat) (hnc : t.cs.length = nc) (hnb : t.bd.length = nb) (ca ba : Option Addr) (cca cba : Nat) (w : World) (hCG : SlG (hw w) ca (List.flatMap cc t.cs)) (hBG : SlG (hw w) ba (List.flatMap vl t.bd)) : Calls Tryz.prog 12 #[.agg #[.string (bs t.nm), .slice ca nc cca, .int .i64 t.key, .int .i64 t.pt, .slice ba nb cba]] w (PostR w fun v => v = .bool (pB (FewP t))) := by
 have hS := St.start w
 subst hnc hnb
 refine c_enter Tryz.func12 rfl rfl rfl ?_
 refine wp_seq_k (fun K1 hK1 => ?_)
 refine wp_region_lit ?_
 refine l_e rfl (fun K hK => ?_)
 refine e_boxA hS rfl (fun b2 w2 (hS2 : St _ _ [.blk b2 (.cells #[.string (bs t.nm), .slice ca t.cs.length cca, .int .i64 t.key, .int .i64 t.pt, .slice ba t.bd.length cba] 25)] _) => ?_)
 clear hS
 refine hK _ _ ?_; clear hK K
 refine l_q rfl rfl (q_assignB rfl) ?_
 refine l_nil ?_
 refine hK1 _ _ ?_
 refine wp_seq_k (fun K3 hK3 => ?_)
 refine wp_seq_k (fun K4 hK4 => ?_)
 refine wp_region_lit ?_
 refine l_q rfl rfl (q_fieldAddr (ft := 9) (o := 0) rfl (by kernel_rfl)) ?_
 refine l_q rfl rfl (q_load1 rfl (by kernel_rfl) (hS2.cell (i := 0) rfl rfl)) ?_
 refine l_q rfl rfl (q_lenStrB (l := t.nm) rfl (by kernel_rfl)) ?_
 refine l_q rfl rfl (q_gtr rfl rfl) ?_
 refine l_q rfl rfl (q_moveB rfl) ?_
 refine g_splitL (t := 8) rfl (fun hg5 => ?_) (fun hg5 => ?_)
 ·
  have hg5b := hg5
  try simp only [decide_eq_true_eq, decide_eq_false_iff_not, Bool.not_eq_true', Bool.not_eq_false', Bool.and_eq_true, Bool.or_eq_true, Int.not_lt, Int.not_le, ne_eq, Decidable.not_not] at hg5
  refine l_off rfl rfl rfl hg5b ?_
  refine l_off rfl rfl rfl hg5b ?_
  refine l_off rfl rfl rfl hg5b ?_
  refine l_off rfl rfl rfl hg5b ?_
  refine l_q rfl rfl (q_pickT rfl hg5b rfl) ?_
  refine l_q rfl rfl (q_moveB rfl) ?_
  refine l_off rfl rfl rfl rfl ?_
  refine l_off rfl rfl rfl rfl ?_
  refine l_off rfl rfl rfl rfl ?_
  refine l_off rfl rfl rfl rfl ?_
  refine l_q rfl rfl (q_pickT rfl rfl rfl) ?_
  refine l_nil ?_
  refine hK4 _ _ ?_
  refine c_condT rfl rfl ?_
  refine wp_seq_k (fun K7 hK7 => ?_)
  refine wp_region_lit ?_
  refine l_q rfl rfl (q_assignB rfl) ?_
  refine l_nil ?_
  refine hK7 _ _ ?_
  refine wp_ret ?_
  refine c_ret1 rfl rfl ?_
  exact ⟨_, rfl, congrArg Value.bool (fw_no (by omega)), hS2.drop⟩
 ·
  have hg5b := hg5
  try simp only [decide_eq_true_eq, decide_eq_false_iff_not, Bool.not_eq_true', Bool.not_eq_false', Bool.and_eq_true, Bool.or_eq_true, Int.not_lt, Int.not_le, ne_eq, Decidable.not_not] at hg5
  refine l_on rfl rfl hg5b ?_
  refine l_q rfl rfl (q_fieldAddr (ft := 22) (o := 1) rfl (by kernel_rfl)) ?_
  refine l_on rfl rfl hg5b ?_
  refine l_q rfl rfl (q_load1 rfl (by kernel_rfl) (hS2.cell (i := 0) rfl rfl)) ?_
  refine l_on rfl rfl hg5b ?_
  refine l_q rfl rfl (q_lenSl (e := 47) rfl (by kernel_rfl)) ?_
  refine l_on rfl rfl hg5b ?_
  refine l_q rfl rfl (q_gtr rfl rfl) ?_
  refine l_q rfl rfl (q_pickF rfl hg5b rfl) ?_
  refine l_q rfl rfl (q_moveB rfl) ?_
  refine g_splitL (t := 14) rfl (fun hg8 => ?_) (fun hg8 => ?_)
  ·
   have hg8b := hg8
   try simp only [decide_eq_true_eq, decide_eq_false_iff_not, Bool.not_eq_true', Bool.not_eq_false', Bool.and_eq_true, Bool.or_eq_true, Int.not_lt, Int.not_le, ne_eq, Decidable.not_not] at hg8
   refine l_off rfl rfl rfl hg8b ?_
   refine l_off rfl rfl rfl hg8b ?_
   refine l_off rfl rfl rfl hg8b ?_
   refine l_off rfl rfl rfl hg8b ?_
   refine l_q rfl rfl (q_pickT rfl hg8b rfl) ?_
   refine l_nil ?_
   refine hK4 _ _ ?_
   refine c_condT rfl rfl ?_
   refine wp_seq_k (fun K10 hK10 => ?_)
   refine wp_region_lit ?_
   refine l_q rfl rfl (q_assignB rfl) ?_
   refine l_nil ?_
   refine hK10 _ _ ?_
   refine wp_ret ?_
   refine c_ret1 rfl rfl ?_
   exact ⟨_, rfl, congrArg Value.bool (fw_no (by omega)), hS2.drop⟩
  ·
   have hg8b := hg8
   try simp only [decide_eq_true_eq, decide_eq_false_iff_not, Bool.not_eq_true', Bool.not_eq_false', Bool.and_eq_true, Bool.or_eq_true, Int.not_lt, Int.not_le, ne_eq, Decidable.not_not] at hg8
   refine l_on rfl rfl hg8b ?_
   refine l_q rfl rfl (q_fieldAddr (ft := 23) (o := 4) rfl (by kernel_rfl)) ?_
   refine l_on rfl rfl hg8b ?_
   refine l_q rfl rfl (q_load1 rfl (by kernel_rfl) (hS2.cell (i := 0) rfl rfl)) ?_
   refine l_on rfl rfl hg8b ?_
   refine l_q rfl rfl (q_lenSl (e := 59) rfl (by kernel_rfl)) ?_
   refine l_on rfl rfl hg8b ?_
   refine l_q rfl rfl (q_gtr rfl rfl) ?_
   refine l_q rfl rfl (q_pickF rfl hg8b rfl) ?_
   refine l_nil ?_
   refine hK4 _ _ ?_
   refine c_cond rfl (fun hc11 => ?_) (fun hc11 => ?_)
   ·
    have hc11b := hc11
    try simp only [decide_eq_true_eq, decide_eq_false_iff_not, Bool.not_eq_true', Bool.not_eq_false', Bool.and_eq_true, Bool.or_eq_true, Int.not_lt, Int.not_le, ne_eq, Decidable.not_not] at hc11
    refine wp_seq_k (fun K12 hK12 => ?_)
    refine wp_region_lit ?_
    refine l_q rfl rfl (q_assignB rfl) ?_
    refine l_nil ?_
    refine hK12 _ _ ?_
    refine wp_ret ?_
    refine c_ret1 rfl rfl ?_
    exact ⟨_, rfl, congrArg Value.bool (fw_no (by omega)), hS2.drop⟩
   ·
    have hc11b := hc11
    try simp only [decide_eq_true_eq, decide_eq_false_iff_not, Bool.not_eq_true', Bool.not_eq_false', Bool.and_eq_true, Bool.or_eq_true, Int.not_lt, Int.not_le, ne_eq, Decidable.not_not] at hc11
    refine wp_skip ?_
    refine hK3 _ _ ?_
    refine wp_seq_k (fun K13 hK13 => ?_)
    refine wp_seq_k (fun K14 hK14 => ?_)
    refine wp_region_lit ?_
    refine l_q rfl rfl (q_assignI rfl) ?_
    refine l_nil ?_
    refine hK14 _ _ ?_
    refine wp_block ?_
    refine c_loop (τ := Nat) [(2, 3), (20, 34)] (fun x => (fun (i : Nat) => [(3, .int .i64 (i : Int))]) x) (fun x w' => (fun (i : Nat) => St w (fun _ => False) [.blk b2 (.cells #[.string (bs t.nm), .slice ca t.cs.length cca, .int .i64 t.key, .int .i64 t.pt, .slice ba t.bd.length cba] 25)] w' ∧ i ≤ t.cs.length ∧ (∀ j, j < i → ∀ c, t.cs[j]? = some c → c.nm.length ≤ 100)) x) (fun x => (fun (i : Nat) => t.cs.length - i) x) (0) ?_ (by repeat' (first | exact trivial | refine ⟨by first | rfl | exact int_succ _ | assumption, ?_⟩)) (fun i j15 w15 hJ15 K15 hK15 => ?_)
    ·
     exact ⟨hS2, Nat.zero_le _, fun j hj => by omega⟩
    ·
     obtain ⟨hS15, hi, hj⟩ := hJ15
     try dsimp only at hS15 hi hj ⊢
     refine wp_seq_k (fun K16 hK16 => ?_)
     refine wp_seq_k (fun K17 hK17 => ?_)
     refine wp_region_lit ?_
     refine l_q rfl rfl (q_moveI rfl) ?_
     refine l_q rfl rfl (q_fieldAddr (ft := 22) (o := 1) rfl (by kernel_rfl)) ?_
     refine l_q rfl rfl (q_load1 rfl (by kernel_rfl) (hS15.cell (i := 0) rfl rfl)) ?_
     refine l_q rfl rfl (q_lenSl (e := 47) rfl (by kernel_rfl)) ?_
     refine l_q rfl rfl (q_lss rfl rfl) ?_
     refine l_nil ?_
     refine hK17 _ _ ?_
     refine c_cond rfl (fun hc18 => ?_) (fun hc18 => ?_)
     ·
      have hc18b := hc18
      try simp only [decide_eq_true_eq, decide_eq_false_iff_not, Bool.not_eq_true', Bool.not_eq_false', Bool.and_eq_true, Bool.or_eq_true, Int.not_lt, Int.not_le, ne_eq, Decidable.not_not] at hc18
      refine wp_skip ?_
      refine hK16 _ _ ?_
      refine wp_seq_k (fun K19 hK19 => ?_)
      refine wp_block ?_
      refine wp_seq_k (fun K20 hK20 => ?_)
      refine wp_region_lit ?_
      refine l_q rfl rfl (q_fieldAddr (ft := 22) (o := 1) rfl (by kernel_rfl)) ?_
      refine l_q rfl rfl (q_load1 rfl (by kernel_rfl) (hS15.cell (i := 0) rfl rfl)) ?_
      refine l_q rfl rfl (q_moveI rfl) ?_
      refine l_q rfl rfl (q_ixG (e := 47) (m := 3) (j := i) rfl rfl (by kernel_rfl) (by kernel_rfl) (by first | rfl | omega) (by omega) hCG (by rw [rows_len (c := cc) (m := 3) (fun _ => rfl)]; first | omega | (simp only [lls] <;> omega))) ?_
      refine l_q rfl rfl (q_fieldG (ft := 9) (o := 0) rfl (by kernel_rfl)) ?_
      obtain ⟨x21, hx21⟩ : ∃ x, (t.cs)[i]? = some x := ⟨_, List.getElem?_eq_getElem (by first | omega | (simp only [lls] <;> omega) | (simp <;> omega))⟩
      have hcb_x21 := (htc x21 (List.mem_of_getElem? hx21)).2
      refine l_q rfl rfl (q_load1 rfl (by kernel_rfl) (SlG.cell (hCG.mono hS15.base) (Gle.refl _) (row_at hx21 (c := cc) (m := 3) (fun _ => rfl) (j := 0) rfl))) ?_
      refine l_q rfl rfl (q_lenStrB (l := x21.nm) rfl (by kernel_rfl)) ?_
      refine l_q rfl rfl (q_gtr rfl rfl) ?_
      refine l_nil ?_
      refine hK20 _ _ ?_
      refine c_cond rfl (fun hc22 => ?_) (fun hc22 => ?_)
      ·
       have hc22b := hc22
       try simp only [decide_eq_true_eq, decide_eq_false_iff_not, Bool.not_eq_true', Bool.not_eq_false', Bool.and_eq_true, Bool.or_eq_true, Int.not_lt, Int.not_le, ne_eq, Decidable.not_not] at hc22
       refine wp_seq_k (fun K23 hK23 => ?_)
       refine wp_region_lit ?_
       refine l_q rfl rfl (q_assignB rfl) ?_
       refine l_nil ?_
       refine hK23 _ _ ?_
       refine wp_ret ?_
       refine c_ret1 rfl rfl ?_
       exact ⟨_, rfl, congrArg Value.bool (fw_no2 hx21 (by omega)), hS15.drop⟩
      ·
       have hc22b := hc22
       try simp only [decide_eq_true_eq, decide_eq_false_iff_not, Bool.not_eq_true', Bool.not_eq_false', Bool.and_eq_true, Bool.or_eq_true, Int.not_lt, Int.not_le, ne_eq, Decidable.not_not] at hc22
       refine wp_skip ?_
       refine hK19 _ _ ?_
       refine wp_region_lit ?_
       refine l_q rfl rfl (q_moveI rfl) ?_
       refine l_q rfl rfl (q_addx rfl rfl (by first | decide | omega) (by first | decide | omega)) ?_
       refine l_q rfl rfl (q_assignI rfl) ?_
       refine l_nil ?_
       refine hK15 _ _ (came ((i + 1)) (by repeat' (first | exact Agree.refl _ _ | refine Agree.up ?_ rfl | refine Agree.hav2 ?_ rfl | refine Agree.ups2 ?_ rfl)) (by repeat' (first | exact trivial | refine ⟨by first | rfl | exact int_succ _ | assumption, ?_⟩)) ?_)
       exact ⟨⟨hS15, (by show i + 1 ≤ t.cs.length; omega), q_next (Q := fun c => c.nm.length ≤ 100) hj hx21 (by omega)⟩, by (show t.cs.length - (i + 1) < t.cs.length - i); omega⟩
     ·
      have hc18b := hc18
      try simp only [decide_eq_true_eq, decide_eq_false_iff_not, Bool.not_eq_true', Bool.not_eq_false', Bool.and_eq_true, Bool.or_eq_true, Int.not_lt, Int.not_le, ne_eq, Decidable.not_not] at hc18
      refine wp_exit ?_
      refine hK13 _ _ ?_
      refine wp_seq_k (fun K24 hK24 => ?_)
      refine wp_region_lit ?_
      refine l_q rfl rfl (q_fieldAddr (ft := 23) (o := 4) rfl (by kernel_rfl)) ?_
      refine l_q rfl rfl (q_load1 rfl (by kernel_rfl) (hS15.cell (i := 0) rfl rfl)) ?_
      refine l_e rfl (fun K hK => ?_)
      refine e_call (by kernel_rfl) (short_ok t.bd htb t.bd.length (by first | omega | (simp only [lls] <;> omega)) _ _ _ (hBG.mono hS15.base)) rfl (after_R hS15 (fun v25 w25 hv25 hS25 => ?_))
      clear hS15
      obtain rfl := hv25
      refine hK _ _ ?_; clear hK K
      refine l_q rfl rfl (q_assignB rfl) ?_
      refine l_nil ?_
      refine hK24 _ _ ?_
      refine wp_ret ?_
      refine c_ret1 rfl rfl ?_
      exact ⟨_, rfl, congrArg Value.bool (fw_yes (by omega) (fun j hj' v hv => hj j (by omega) v hv)), hS25.drop⟩

set_option maxRecDepth 100000 in
theorem parts_ok (t : Tb) (htn : Bytes t.nm) (htc : CsOk t.cs) (htb : VsOk t.bd) (nc nb : Nat) (hnc : t.cs.length = nc) (hnb : t.bd.length = nb) (hmc : nc ≤ 2000000) (hmb : nb ≤ 2000000) (ca ba : Option Addr) (cca cba : Nat) (w : World) (hCG : SlG (hw w) ca (List.flatMap cc t.cs)) (hBG : SlG (hw w) ba (List.flatMap vl t.bd)) : Calls Tryz.prog 21 #[.agg #[.string (bs t.nm), .slice ca nc cca, .int .i64 t.key, .int .i64 t.pt, .slice ba nb cba]] w (PostR w fun v => v = .int .i64 (partsN t)) := by
 have hS := St.start w
 subst hnc hnb
 refine c_enter Tryz.func21 rfl rfl rfl ?_
 refine wp_seq_k (fun K1 hK1 => ?_)
 refine wp_region_lit ?_
 refine l_e rfl (fun K hK => ?_)
 refine e_boxA hS rfl (fun b2 w2 (hS2 : St _ _ [.blk b2 (.cells #[.string (bs t.nm), .slice ca t.cs.length cca, .int .i64 t.key, .int .i64 t.pt, .slice ba t.bd.length cba] 25)] _) => ?_)
 clear hS
 refine hK _ _ ?_; clear hK K
 refine l_q rfl rfl (q_assignI rfl) ?_
 refine l_nil ?_
 refine hK1 _ _ ?_
 refine wp_seq_k (fun K3 hK3 => ?_)
 refine wp_seq_k (fun K4 hK4 => ?_)
 refine wp_region_lit ?_
 refine l_q rfl rfl (q_fieldAddr (ft := 3) (o := 3) rfl (by kernel_rfl)) ?_
 refine l_q rfl rfl (q_load1 rfl (by kernel_rfl) (hS2.cell (i := 0) rfl rfl)) ?_
 refine l_q rfl rfl (q_gtr rfl rfl) ?_
 refine l_nil ?_
 refine hK4 _ _ ?_
 refine c_cond rfl (fun hc5 => ?_) (fun hc5 => ?_)
 ·
  have hc5b := hc5
  try simp only [decide_eq_true_eq, decide_eq_false_iff_not, Bool.not_eq_true', Bool.not_eq_false', Bool.and_eq_true, Bool.or_eq_true, Int.not_lt, Int.not_le, ne_eq, Decidable.not_not] at hc5
  refine wp_seq_k (fun K6 hK6 => ?_)
  refine wp_region_lit ?_
  refine l_q rfl rfl (q_fieldAddr (ft := 3) (o := 3) rfl (by kernel_rfl)) ?_
  refine l_q rfl rfl (q_load1 rfl (by kernel_rfl) (hS2.cell (i := 0) rfl rfl)) ?_
  refine l_q rfl rfl (q_assignI rfl) ?_
  refine l_nil ?_
  refine hK6 _ _ ?_
  refine wp_ret ?_
  refine c_ret1 rfl rfl ?_
  exact ⟨_, rfl, congrArg (Value.int .i64) (by unfold partsN; split <;> omega), hS2.drop⟩
 ·
  have hc5b := hc5
  try simp only [decide_eq_true_eq, decide_eq_false_iff_not, Bool.not_eq_true', Bool.not_eq_false', Bool.and_eq_true, Bool.or_eq_true, Int.not_lt, Int.not_le, ne_eq, Decidable.not_not] at hc5
  refine wp_skip ?_
  refine hK3 _ _ ?_
  refine wp_seq_k (fun K7 hK7 => ?_)
  refine wp_region_lit ?_
  refine l_q rfl rfl (q_fieldAddr (ft := 23) (o := 4) rfl (by kernel_rfl)) ?_
  refine l_q rfl rfl (q_load1 rfl (by kernel_rfl) (hS2.cell (i := 0) rfl rfl)) ?_
  refine l_q rfl rfl (q_lenSl (e := 59) rfl (by kernel_rfl)) ?_
  refine l_q rfl rfl (q_addx rfl rfl (by first | decide | omega) (by first | decide | omega)) ?_
  refine l_q rfl rfl (q_assignI rfl) ?_
  refine l_nil ?_
  refine hK7 _ _ ?_
  refine wp_ret ?_
  refine c_ret1 rfl rfl ?_
  exact ⟨_, rfl, congrArg (Value.int .i64) (by unfold partsN; split <;> omega), hS2.drop⟩


set_option maxRecDepth 100000 in
theorem hash_ok (l : List Nat) (hl : Bytes l) (n : Nat) (hn : l.length = n) (hm : n ≤ 2000000) (al : Option Addr) (cl : Nat) (w : World) (hG : SlG (hw w) al (bv l)) : Calls Tryz.prog 22 #[.slice al n cl] w (PostR w fun v => v = .int .u32 ((hashB l : Nat) : Int)) := by
 have hS := St.start w
 subst hn
 refine c_enter Tryz.func22 rfl rfl rfl ?_
 refine wp_seq_k (fun K1 hK1 => ?_)
 refine wp_region_lit ?_
 refine l_q rfl rfl (q_assignI rfl) ?_
 refine l_nil ?_
 refine hK1 _ _ ?_
 refine wp_seq_k (fun K2 hK2 => ?_)
 refine wp_region_lit ?_
 refine l_q rfl rfl (q_assignI rfl) ?_
 refine l_nil ?_
 refine hK2 _ _ ?_
 refine wp_seq_k (fun K3 hK3 => ?_)
 refine wp_seq_k (fun K4 hK4 => ?_)
 refine wp_region_lit ?_
 refine l_q rfl rfl (q_moveS rfl) ?_
 refine l_q rfl rfl (q_lenSl (e := 5) rfl (by kernel_rfl)) ?_
 refine l_q rfl rfl (q_moveI rfl) ?_
 refine l_nil ?_
 refine hK4 _ _ ?_
 refine wp_block ?_
 refine c_loop (τ := Nat) [(3, 3), (5, 5), (8, 17)] (fun x => (fun (i : Nat) => [(8, .int .i64 (i : Int)), (3, .int .u32 (((hashB (l.take i)) : Nat) : Int))]) x) (fun x w' => (fun (i : Nat) => St w (fun _ => False) [] w' ∧ i ≤ l.length) x) (fun x => (fun (i : Nat) => l.length - i) x) (0) ?_ (by refine ⟨rfl, ⟨congrArg (fun n : Nat => Value.int .u32 (n : Int)) (hash_0 l), trivial⟩⟩) (fun i j5 w5 hJ5 K5 hK5 => ?_)
 ·
  exact ⟨hS, Nat.zero_le _⟩
 ·
  obtain ⟨hS5, hi⟩ := hJ5
  try dsimp only at hS5 hi ⊢
  have hbl := hashB_lt (l.take i)
  refine wp_seq_k (fun K6 hK6 => ?_)
  refine wp_region_lit ?_
  refine l_q rfl rfl (q_lss rfl rfl) ?_
  refine l_nil ?_
  refine hK6 _ _ ?_
  refine wp_seq_k (fun K7 hK7 => ?_)
  refine c_cond rfl (fun hc8 => ?_) (fun hc8 => ?_)
  ·
   have hc8b := hc8
   try simp only [decide_eq_true_eq, decide_eq_false_iff_not, Bool.not_eq_true', Bool.not_eq_false', Bool.and_eq_true, Bool.or_eq_true, Int.not_lt, Int.not_le, ne_eq, Decidable.not_not] at hc8
   refine wp_skip ?_
   refine hK7 _ _ ?_
   refine wp_seq_k (fun K9 hK9 => ?_)
   refine wp_block ?_
   refine wp_seq_k (fun K10 hK10 => ?_)
   refine wp_region_lit ?_
   refine l_q rfl rfl (q_ixG (e := 5) (m := 1) (j := i) rfl rfl (by kernel_rfl) (by kernel_rfl) (by first | rfl | omega) (by omega) hG (by rw [bv_len]; first | omega | (simp only [lls] <;> omega))) ?_
   obtain ⟨x11, hx11⟩ : ∃ x, (l)[i]? = some x := ⟨_, List.getElem?_eq_getElem (by first | omega | (simp only [lls] <;> omega) | (simp <;> omega))⟩
   have hb11 : x11 < 256 := hl x11 (List.mem_of_getElem? hx11)
   refine l_q rfl rfl (q_load1 rfl (by kernel_rfl) (SlG.cell (hG.mono hS5.base) (Gle.refl _) (at1 (bv_at hx11)))) ?_
   refine l_q rfl rfl (q_assignI rfl) ?_
   refine l_nil ?_
   refine hK10 _ _ ?_
   refine wp_region_lit ?_
   refine l_q rfl rfl (q_moveI rfl) ?_
   refine l_q rfl rfl (q_moveI rfl) ?_
   refine l_q rfl rfl (q_convN (a := x11) rfl (by kernel_rfl) (by kernel_rfl) (wrap_fit_u32 (by omega))) ?_
   refine l_q rfl rfl (q_xorN (a := (hashB (l.take i))) (b := x11) 32 rfl rfl (by omega) (by omega) (.inl ⟨rfl, rfl⟩)) ?_
   refine l_q rfl rfl (u_mul (a := ((hashB (l.take i)) ^^^ x11)) (b := 16777619) (M := 4294967296) rfl rfl rfl (by decide)) ?_
   refine l_q rfl rfl (q_assignI rfl) ?_
   refine l_nil ?_
   refine hK9 _ _ ?_
   refine wp_region_lit ?_
   refine l_q rfl rfl (q_addx rfl rfl (by first | decide | omega) (by first | decide | omega)) ?_
   refine l_q rfl rfl (q_moveI rfl) ?_
   refine l_nil ?_
   refine hK5 _ _ (came ((i + 1)) (by repeat' (first | exact Agree.refl _ _ | refine Agree.up ?_ rfl | refine Agree.hav2 ?_ rfl | refine Agree.ups2 ?_ rfl)) (by repeat' (first | exact trivial | refine ⟨by first | rfl | exact int_succ _ | (exact congrArg (fun n : Nat => Value.int .u32 (n : Int)) (by rw [hashB_take hx11])), ?_⟩)) ?_)
   exact ⟨⟨hS5, (by show i + 1 ≤ l.length; omega)⟩, by (show l.length - (i + 1) < l.length - i); omega⟩
  ·
   have hc8b := hc8
   try simp only [decide_eq_true_eq, decide_eq_false_iff_not, Bool.not_eq_true', Bool.not_eq_false', Bool.and_eq_true, Bool.or_eq_true, Int.not_lt, Int.not_le, ne_eq, Decidable.not_not] at hc8
   refine wp_exit ?_
   refine hK3 _ _ ?_
   refine wp_seq_k (fun K12 hK12 => ?_)
   refine wp_region_lit ?_
   refine l_q rfl rfl (q_moveI rfl) ?_
   refine l_q rfl rfl (q_assignI rfl) ?_
   refine l_nil ?_
   refine hK12 _ _ ?_
   refine wp_ret ?_
   refine c_ret1 rfl rfl ?_
   exact ⟨_, rfl, congrArg (fun n : Nat => Value.int .u32 (n : Int)) (hash_end (by omega)), hS5.drop⟩


end Go.Proofs.YtmemgpcgjephmaaGreatDoor
